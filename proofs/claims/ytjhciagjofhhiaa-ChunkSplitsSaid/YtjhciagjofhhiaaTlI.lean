import Derived.Test.YtjhciagjofhhiaaTlH
import Derived.Deep.DeepCutAuto
/- The reference's Params. -/
namespace Go.Proofs.Ytjhciagjofhhiaa.Tl
open Go.RowKit Go.Proofs.YtjhciagjofhhiaaW.PrintWords Go.Proofs.YtjhciagjofhhiaaW.PrintLast Go.Proofs.YtjhciagjofhhiaaW.PrintMore Go.Proofs.Ytjhciagjofhhiaa.Sh
set_option linter.unusedVariables false
set_option linter.unusedSimpArgs false
theorem info68 : (Try.prog.info? 68).map (fun i => (i.zero, i.size, i.bytes)) = some (some (.agg #[.int .i64 0, .slice none 0 0]), 2, 32) := by kernel_rfl
abbrev PR8 (w : World) (base : Nat) (v : Value) (ps : List Par) : Prop := Kd.R PAR 68 w base (fun _ => True) v ps
def RParsed (w : World) (b : List Int) (e : Ending) (w' : World) : Prop :=
  Below w.heap.size w w' ∧ ((∃ ps v, prs (b.length + 1) b = some ps ∧ e = .returned (.tuple #[v, .bool true]) ∧ PR8 w' w.heap.size v ps) ∨ (prs (b.length + 1) b = none ∧ e = .returned (.tuple #[.slice none 0 0, .bool false])))
/-- How far the reference has come: d is left. -/
structure RCome (w : World) (b : List Int) (A : Option Addr) (c : Nat) (d : List Int) (vo : Value) (ps : List Par) (wr : World) : Prop where
  cells : Kd.C (Kd.int .u8) w A d.length d
  cap : d.length ≤ c
  bytes : Bytes d
  len : d.length ≤ 1048576
  bel : Below w.heap.size w wr
  row : PR8 wr w.heap.size vo ps
  num : 4 * ps.length + d.length ≤ 1048576
  fuel : ∃ f, d.length < f ∧ prs (b.length + 1) b = (prs f d).map (fun l => ps ++ l)
theorem RCome.drewN {w wr : World} {b : List Int} {A : Option Addr} {c : Nat} {d : List Int} {vo : Value} {ps : List Par} (h : RCome w b A c d vo ps wr) (m : Nat) : RCome w b A c d vo ps (wr.drewN m) :=
  ⟨h.cells, h.cap, h.bytes, h.len, h.bel.trans (pw_below_drewN (Below.refl _ _) m), Kd.R_below h.row (pw_below_drewN (Below.refl _ _) m), h.num, h.fuel⟩
theorem par_m8 {W : World} {base : Nat} {A5 A6 : Option Addr} {n5 c5 n6 c6 : Nat} {ps : List Par} {k : Int} {val : List Int} (h : PR8 W base (.slice A5 n5 c5) ps) (hv : RB W base (.slice A6 n6 c6) val) :
    PAR.M W base (fun q => some q ≠ (Value.slice A5 n5 c5).ownBlock) (k, val) [.int .i64 k, .slice A6 n6 c6] := by
  refine ⟨[.int .i64 k], [.slice A6 n6 c6], rfl, rfl, _, rfl, Kd.R_mono (Kd.R_bound hv) (fun q hq he => ?_)⟩
  obtain ⟨_, _, _, t, ht, cells, hc⟩ := hq
  obtain ⟨cur, hcur⟩ := Kd.R_typed h q he.symm
  rw [hc] at hcur
  injection hcur with hcur
  injection hcur with _ hcur
  have h5 : t = 5 := by simpa [Kd.int, Kd.scalar] using ht
  rw [h5] at hcur
  cases hcur
theorem rb_empty (w : World) {B : Nat} (hB : B ≤ w.heap.size) : RB (w.alloc (.cells #[] 5)) B (.slice (some ⟨w.heap.size, 0, none⟩) 0 0) [] :=
  ⟨fun _ _ => trivial, [], World.ownsRow_lit (base := B) (e := 5) (size := 1) w #[] 0 hB (by decide) rfl, Reps.none _ _⟩
theorem pr8_new {W w5 w7 : World} {base : Nat} {vo : Value} {ps : List Par} {g : Nat} (h : PR8 w5 base vo ps) (hW : W.heap = (w5.alloc (.cells #[] 5)).heap) (hg : W.grownBy w7 (some g)) (hgs : g = w5.heap.size) : PR8 w7 base vo ps :=
  Kd.R_mono (Kd.R_step (Kd.R_bound h) (fun k hk hlt => by
    have h1 : k < W.heap.size := by rw [hW, World.size_alloc]; omega
    rw [hg.block k h1 (fun e => by injection e with e; omega), hW]
    exact Below.heap_alloc w5 _ k hlt)) (fun _ _ => trivial)
theorem rcome_none {w wr : World} {b : List Int} {A : Option Addr} {c : Nat} {d : List Int} {vo : Value} {ps : List Par} (h : RCome w b A c d vo ps wr) (hne : d ≠ []) (hb : ¬ (4 ≤ d.length ∧ ¬ bad1 d (nOf d))) : prs (b.length + 1) b = none := by
  obtain ⟨f, hf, hp⟩ := h.fuel
  obtain ⟨f', rfl⟩ : ∃ f', f = f' + 1 := ⟨f - 1, by omega⟩
  rw [hp, (prs_step f' hne).2 hb]
  rfl
theorem rcome_done {w wr : World} {b : List Int} {A : Option Addr} {c : Nat} {vo : Value} {ps : List Par} (h : RCome w b A c [] vo ps wr) : prs (b.length + 1) b = some ps := by
  obtain ⟨f, hf, hp⟩ := h.fuel
  obtain ⟨f', rfl⟩ : ∃ f', f = f' + 1 := ⟨f - 1, by omega⟩
  rw [hp, prs_nil]
  simp
theorem byte_at {d : List Int} (hb : Bytes d) (k : Nat) (hk : k < d.length) : ∃ x : Nat, rd d (k : Int) = (x : Int) ∧ x < 256 ∧ d.getD k 0 = (x : Int) := by
  have hm : d.getD k 0 ∈ d := by
    rw [List.getD_eq_getElem?_getD, List.getElem?_eq_getElem hk]
    exact List.getElem_mem hk
  have h := hb _ hm
  have hr : rd d (k : Int) = d.getD k 0 := by unfold rd; rw [Int.toNat_natCast]
  exact ⟨(d.getD k 0).toNat, by rw [hr]; omega, by omega, by omega⟩
theorem rcome_next {w wr w9 : World} {b : List Int} {A : Option Addr} {c : Nat} {d : List Int} {vo vo9 : Value} {ps : List Par} (h : RCome w b A c d vo ps wr) (hne : d ≠ []) (N T : Nat) (hN : nOf d = N) (hT : T = N + padn N) (h4 : 4 ≤ N) (h5 : N ≤ 4004) (hTd : T ≤ d.length)
    (hz : ∀ j, N ≤ j → j < T → d.getD j 0 = 0) {A8 : Option Addr} (hrd : Kd.C (Kd.int .u8) w A8 (d.length - T) (d.drop T)) (hrow : PR8 w9 w.heap.size vo9 (ps ++ [(((val (d.take 2) : Nat) : Int), (d.take N).drop 4)])) (hb : Below w.heap.size w w9) :
    RCome w b A8 (c - T) (d.drop T) vo9 (ps ++ [(((val (d.take 2) : Nat) : Int), (d.take N).drop 4)]) w9 := by
  have hl : (d.drop T).length = d.length - T := List.length_drop
  have hcap := h.cap
  have hlen := h.len
  have hnum := h.num
  refine ⟨by rw [hl]; exact hrd, by rw [hl]; omega, fun x hx => h.bytes x (List.mem_of_mem_drop hx), by rw [hl]; omega, hb, hrow, by rw [List.length_append, List.length_singleton, hl]; omega, ?_⟩
  obtain ⟨f, hf, hp⟩ := h.fuel
  obtain ⟨f', rfl⟩ : ∃ f', f = f' + 1 := ⟨f - 1, by omega⟩
  have hnb : ¬ bad1 d (nOf d) := by
    rw [hN]
    unfold bad1
    simp only [not_or]
    refine ⟨by omega, by omega, by omega, ?_⟩
    rw [Classical.not_not]
    intro x hx
    obtain ⟨i, hi, rfl⟩ := List.getElem_of_mem hx
    rw [List.length_take, List.length_drop] at hi
    have h1 := hz (N + i) (by omega) (by omega)
    rw [List.getElem_take, List.getElem_drop]
    rw [List.getD_eq_getElem?_getD, List.getElem?_eq_getElem (by omega)] at h1
    exact h1
  refine ⟨f', by rw [hl]; omega, ?_⟩
  rw [hp, (prs_step f' hne).1 ⟨by omega, hnb⟩, hN, ← hT, List.drop_take]
  cases prs f' (d.drop T) with
  | none => rfl
  | some l => simp
theorem nOf_val (d : List Int) (x2 x3 : Nat) (h : 4 ≤ d.length) (g2 : d.getD 2 0 = (x2 : Int)) (g3 : d.getD 3 0 = (x3 : Int)) : nOf d = x2 * 256 + x3 := by
  unfold nOf
  match d, h with
  | y0 :: y1 :: y2 :: y3 :: r, _ =>
    have f2 : y2 = (x2 : Int) := g2
    have f3 : y3 = (x3 : Int) := g3
    simp only [List.drop_succ_cons, List.drop_zero, List.take_succ_cons, List.take_zero]
    rw [val_two, f2, f3]
    simp
theorem kexp (d : List Int) (x0 x1 : Nat) (l0 : x0 < 256) (l1 : x1 < 256) (h : 2 ≤ d.length) (g0 : d.getD 0 0 = (x0 : Int)) (g1 : d.getD 1 0 = (x1 : Int)) :
    wrap64 (wrap64 (wrap64 (x0 : Int) * 256) + wrap64 (x1 : Int)) = ((val (d.take 2) : Nat) : Int) := by
  have h1 : wrap64 (x0 : Int) = (x0 : Int) := w64 _ _ rfl (by omega) (by omega)
  have h2 : wrap64 ((x0 : Int) * 256) = (x0 : Int) * 256 := w64 _ _ rfl (by omega) (by omega)
  have h3 : wrap64 (x1 : Int) = (x1 : Int) := w64 _ _ rfl (by omega) (by omega)
  have h4 : wrap64 ((x0 : Int) * 256 + (x1 : Int)) = (x0 : Int) * 256 + (x1 : Int) := w64 _ _ rfl (by omega) (by omega)
  rw [h1, h2, h3, h4]
  match d, h with
  | y0 :: y1 :: r, _ =>
    have f0 : y0 = (x0 : Int) := g0
    have f1 : y1 = (x1 : Int) := g1
    simp only [List.take_succ_cons, List.take_zero]
    rw [val_two, f0, f1]
    simp
set_option maxRecDepth 100000 in
set_option maxHeartbeats 4000000 in
theorem rparams_calls (w : World) (A : Option Addr) (c : Nat) (b : List Int) (hc : b.length ≤ c) (hC : Kd.C (Kd.int .u8) w A b.length b) (hl : b.length ≤ 1048576) (hb : Bytes b) : Calls Try.prog 32 #[.slice A b.length c] w (RParsed w b) := by
  have HS0 := Aside0.mk (show RCome w b A c b (.slice none 0 0) [] w from ⟨hC, hc, hb, hl, Below.refl _ _, Kd.R_nil _ _ _ _ _, by simp; omega, b.length + 1, by omega, by simp⟩)
  clear hC hc hl hb
  go_enter Try.func32, Try.ntmps32
  go_wp2_with fail
  go_loopg [0, 4] (b.length + 1) (fun kq vb vo wr => ∃ (A2 : Option Addr) (c2 : Nat) (d : List Int) (A4 : Option Addr) (c4 : Nat) (ps : List Par), vb = .slice A2 d.length c2 ∧ vo = .slice A4 ps.length c4 ∧ Aside0 (RCome w b A2 c2 d (.slice A4 ps.length c4) ps wr) ∧ Aside0 (d.length < kq))
  case atStart => exact ⟨A, c, b, none, 0, [], rfl, rfl, HS0, ⟨by omega⟩⟩
  case round =>
    obtain ⟨A2, c2, d, A4, c4, ps, rfl, rfl, HS, HK⟩ := hrel
    cases gk with
    | zero => exact absurd HK.out (by omega)
    | succ k1 =>
    by_cases hd0 : d.length = 0
    · obtain rfl : d = [] := List.eq_nil_of_length_eq_zero hd0
      go_wp2_with fail
      go_ret2
      exact ⟨HS.out.bel, .inl ⟨_, _, rcome_done HS.out, rfl, HS.out.row⟩⟩
    · have hne := Aside0.mk (show d ≠ [] from fun h => hd0 (by rw [h]; rfl))
      have hdi : (0 : Int) < (d.length : Int) := by omega
      by_cases h4 : d.length < 4
      · have h4i : (d.length : Int) < 4 := by omega
        have HN := Aside0.mk (rcome_none HS.out hne.out (fun h => by omega))
        clear hd0
        go_wp2_with fail
        go_ret2
        exact ⟨HS.out.bel, .inr ⟨HN.out, rfl⟩⟩
      · have h4i : ¬ (d.length : Int) < 4 := by omega
        have hCw := Kd.C_below HS.out.cells HS.out.bel
        obtain ⟨x0, e0, l0, g0⟩ := byte_at HS.out.bytes 0 (by omega)
        obtain ⟨x1, e1, l1, g1⟩ := byte_at HS.out.bytes 1 (by omega)
        obtain ⟨x2, e2, l2, g2⟩ := byte_at HS.out.bytes 2 (by omega)
        obtain ⟨x3, e3, l3, g3⟩ := byte_at HS.out.bytes 3 (by omega)
        obtain ⟨ad, rfl, q0⟩ := Kd.at_int hCw (((0 : Nat) : Int)) (by omega) (by omega)
        obtain ⟨ad', ha', q1⟩ := Kd.at_int hCw (((1 : Nat) : Int)) (by omega) (by omega)
        obtain rfl : ad = ad' := by injection ha'
        obtain ⟨ad', ha', q2⟩ := Kd.at_int hCw (((2 : Nat) : Int)) (by omega) (by omega)
        obtain rfl : ad = ad' := by injection ha'
        obtain ⟨ad', ha', q3⟩ := Kd.at_int hCw (((3 : Nat) : Int)) (by omega) (by omega)
        obtain rfl : ad = ad' := by injection ha'
        rw [e0] at q0
        rw [e1] at q1
        rw [e2] at q2
        rw [e3] at q3
        simp only [Int.toNat_natCast] at q0 q1 q2 q3
        rw [show ad.add 0 = ad from rfl] at q0
        rw [show ad.add 1 = ⟨ad.block, ad.off + 1, none⟩ from rfl] at q1
        rw [show ad.add 2 = ⟨ad.block, ad.off + 2, none⟩ from rfl] at q2
        rw [show ad.add 3 = ⟨ad.block, ad.off + 3, none⟩ from rfl] at q3
        obtain ⟨N, hN⟩ : ∃ N, N = x2 * 256 + x3 := ⟨_, rfl⟩
        have HNO := Aside0.mk ((nOf_val d x2 x3 (by omega) g2 g3).trans hN.symm)
        have hNl : N < 65536 := by omega
        have hw1 : wrap64 ((x2 : Int) * 256) = (x2 : Int) * 256 := w64 _ _ rfl (by omega) (by omega)
        have hw2 : wrap64 ((x2 : Int) * 256 + (x3 : Int)) = (N : Int) := w64 _ _ (by omega) (by omega) (by omega)
        have HNN := Aside0.mk hN
        clear hd0 e0 e1 e2 e3 ha' hN hCw
        have i1 : (1 : Int) < (d.length : Int) := by omega
        have i2 : (2 : Int) < (d.length : Int) := by omega
        have i3 : (3 : Int) < (d.length : Int) := by omega
        go_wp2_with fail
        go_quiet (fail)
        go_upto_region 6 with fail
        have HS5 := Aside0.mk (HS.out.drewN nq)
        have q05 : (wr.drewN nq).cell? ad = some (.int .u8 (x0 : Int)) := q0
        have q15 : (wr.drewN nq).cell? ⟨ad.block, ad.off + 1, none⟩ = some (.int .u8 (x1 : Int)) := q1
        generalize wr.drewN nq = w5 at HS5 q05 q15 ⊢
        rw [show ((x2 : Int) * 256 + (x3 : Int)) = (N : Int) by rw [HNN.out]; simp]
        clear q0 q1 q2 q3 HS hw1 hw2 g2 g3 l2 l3
        obtain ⟨T, hT⟩ : ∃ T, T = N + padn N := ⟨_, rfl⟩
        have hTe : ((N : Int) + 3) / 4 * 4 = (T : Int) := by rw [hT]; unfold padn; omega
        have hTl : T < 65540 ∧ N ≤ T := by rw [hT]; unfold padn; omega
        have HT := Aside0.mk hT
        clear hT
        go_upto_region 7 with fail
        clear hTe
        by_cases hN4 : N < 4
        · have hN4i : (N : Int) < 4 := by omega
          have HN := Aside0.mk (rcome_none HS5.out hne.out (fun h => h.2 (by rw [HNO.out]; exact .inl hN4)))
          go_wp2_with fail
          go_ret2
          exact ⟨HS5.out.bel, .inr ⟨HN.out, rfl⟩⟩
        · have hN4i : ¬ (N : Int) < 4 := by omega
          by_cases hN5 : 4004 < N
          · have hN5i : (4004 : Int) < (N : Int) := by omega
            have HN := Aside0.mk (rcome_none HS5.out hne.out (fun h => h.2 (by rw [HNO.out]; exact .inr (.inl hN5))))
            go_wp2_with fail
            go_ret2
            exact ⟨HS5.out.bel, .inr ⟨HN.out, rfl⟩⟩
          · have hN5i : ¬ (4004 : Int) < (N : Int) := by omega
            by_cases hTd : d.length < T
            · have hTdi : (d.length : Int) < (T : Int) := by omega
              have HN := Aside0.mk (rcome_none HS5.out hne.out (fun h => h.2 (by rw [HNO.out]; exact .inr (.inr (.inl (by rw [← HT.out]; exact hTd))))))
              go_wp2_with fail
              go_ret2
              exact ⟨HS5.out.bel, .inr ⟨HN.out, rfl⟩⟩
            · have hTdi : ¬ (d.length : Int) < (T : Int) := by omega
              go_wp2_with fail
              have HC5 := Aside0.mk (Kd.C_below HS5.out.cells HS5.out.bel)
              have HQ := Aside0.mk (And.intro q05 q15)
              clear q05 q15
              go_loopw [7] (fun i wr' => ∃ k : Nat, N ≤ k ∧ k ≤ T ∧ i = .int .i64 (k : Nat) ∧ wr' = w5 ∧ Aside0 (∀ j, N ≤ j → j < k → d.getD j 0 = 0)) (fun i _ => T - (intOf i).toNat)
              case atStart => exact ⟨N, Nat.le_refl _, hTl.2, rfl, rfl, ⟨fun j h1 h2 => absurd h2 (by omega)⟩⟩
              case round =>
                obtain ⟨k, hk1, hk2, rfl, rfl, HZ⟩ := hrel
                by_cases hkT : k < T
                · have hkTi : (k : Int) < (T : Int) := by omega
                  have hkd : (k : Int) < (d.length : Int) := by omega
                  obtain ⟨xk, ek, lk, gk2⟩ := byte_at HS5.out.bytes k (by omega)
                  obtain ⟨ad2, ha2, qk⟩ := Kd.at_int HC5.out (k : Int) (by omega) hkd
                  obtain rfl : ad = ad2 := by injection ha2
                  rw [ek, Int.toNat_natCast] at qk
                  have HG := Aside0.mk gk2
                  clear ek gk2 ha2
                  by_cases hx0 : xk = 0
                  · subst hx0
                    go_wp2_with fail
                    exact ⟨⟨k + 1, by omega, by omega, by go_num, trivial, ⟨fun j h1 h2 => by
                      by_cases hjk : j = k
                      · rw [hjk]; exact HG.out
                      · exact HZ.out j h1 (by omega)⟩⟩, by simp [intOf]; omega⟩
                  · have hxi : ¬ (xk : Int) = 0 := by omega
                    have HN := Aside0.mk (rcome_none HS5.out hne.out (fun h => h.2 (by
                      rw [HNO.out]
                      refine .inr (.inr (.inr (fun hz => ?_)))
                      have hm : d.getD k 0 ∈ (d.drop N).take (padn N) := by
                        have h1 : d.getD k 0 = ((d.drop N).take (padn N)).getD (k - N) 0 := by
                          rw [List.getD_eq_getElem?_getD, List.getD_eq_getElem?_getD, List.getElem?_take_of_lt (by have := HT.out; omega), List.getElem?_drop, show N + (k - N) = k by omega]
                        rw [h1, List.getD_eq_getElem?_getD, List.getElem?_eq_getElem (by rw [List.length_take, List.length_drop]; have := HT.out; omega)]
                        exact List.getElem_mem _
                      have := hz _ hm
                      rw [HG.out] at this
                      omega)))
                    go_wp2_with fail
                    go_ret2
                    exact ⟨HS5.out.bel, .inr ⟨HN.out, rfl⟩⟩
                · obtain rfl : k = T := by omega
                  have hNd : N ≤ d.length := by omega
                  obtain ⟨i0, hi0, _, hsz, _⟩ := info_parts info5
                  obtain ⟨A6, hrun, hrd, hcap⟩ := print_mid_int (P := Try.prog) (k := .u8) 26 5 Try.underlying26 hi0 hsz (some ad) c2 d (4 : Int) (N : Int) (by omega) (by omega) (by omega) HS5.out.cap
                  rw [show ((4 : Int)).toNat = 4 from rfl, Int.toNat_natCast] at hrun hrd hcap
                  obtain ⟨V, hV⟩ : ∃ V, V = (d.take N).drop 4 := ⟨_, rfl⟩
                  rw [← hV] at hrun hrd hcap
                  have hVl : V.length = N - 4 := by rw [hV, List.length_drop, List.length_take]; omega
                  obtain ⟨M, hM⟩ : ∃ M, M = V.length := ⟨_, rfl⟩
                  rw [← hM] at hrun hrd hcap
                  have HCV := Aside0.mk (fun W (hB : Below w.heap.size w W) => (Kd.C_below (Kd.C_of_reads (hrd w (Kd.reads_of_C HS5.out.cells)) : Kd.C (Kd.int .u8) w A6 M V) hB))
                  have HVV := Aside0.mk (And.intro hV (And.intro hVl hM))
                  have q0w : w.cell? ad = some (.int .u8 (x0 : Int)) := by
                    obtain ⟨ad2, ha2, q⟩ := Kd.at_int HS5.out.cells (((0 : Nat) : Int)) (by omega) (by omega)
                    obtain rfl : ad = ad2 := by injection ha2
                    have h := pw_cell_below HS5.out.bel q
                    rw [show ad.add ((((0 : Nat) : Int)).toNat) = ad from rfl] at q h
                    rw [HQ.out.1] at h
                    rw [q, ← h]
                  have q1w : w.cell? ⟨ad.block, ad.off + 1, none⟩ = some (.int .u8 (x1 : Int)) := by
                    obtain ⟨ad2, ha2, q⟩ := Kd.at_int HS5.out.cells (((1 : Nat) : Int)) (by omega) (by omega)
                    obtain rfl : ad = ad2 := by injection ha2
                    have h := pw_cell_below HS5.out.bel q
                    rw [show ad.add ((((1 : Nat) : Int)).toNat) = ⟨ad.block, ad.off + 1, none⟩ from rfl] at q h
                    rw [HQ.out.2] at h
                    rw [q, ← h]
                  have Q0W := Aside0.mk (And.intro q0w q1w)
                  have q05 := HQ.out.1
                  have q15 := HQ.out.2
                  have hxa0 : ∀ o : Obj, (wr.alloc o).cell? ad = some (.int .u8 (x0 : Int)) := fun o => pw_cell_below (HS5.out.bel.alloc HS5.out.bel.size o) Q0W.out.1
                  have hxa1 : ∀ o : Obj, (wr.alloc o).cell? ⟨ad.block, ad.off + 1, none⟩ = some (.int .u8 (x1 : Int)) := fun o => pw_cell_below (HS5.out.bel.alloc HS5.out.bel.size o) Q0W.out.2
                  have HO0 := Aside0.mk (rb_empty wr HS5.out.bel.size)
                  have HBD := Aside0.mk (show Below w.heap.size w (wr.alloc (.cells #[] 5)).drew from below_drew1 (HS5.out.bel.alloc HS5.out.bel.size _))
                  have HML := Aside0.mk (show (([] : List Int).length + M) * 1 ≤ 140737488355328 by have := HVV.out.2; simp; omega)
                  have HNP := Aside0.mk (show (ps.length + 1) * 32 ≤ 140737488355328 by have := HS5.out.num; omega)
                  have HKE := Aside0.mk (kexp d x0 x1 l0 l1 (by omega) g0 g1)
                  have HI0 := Aside0.mk (And.intro hi0 hsz)
                  clear q0w q1w hV hVl hM hrd hcap hi0 hsz
                  go_upto_region 14 with fail
                  go_cut [4] (fun s wx => ∃ (A9 : Option Addr) (c9 : Nat), s = .slice A9 (ps.length + 1) c9 ∧ Aside0 (PR8 wx w.heap.size (.slice A9 (ps.length + 1) c9) (ps ++ [(((val (d.take 2) : Nat) : Int), V)])) ∧ Aside0 (Below w.heap.size w wx))
                  case first =>
                   refine start_ (n := 20) (S := fun w' => w'.cell? ad = some (.int .u8 (x0 : Int)) ∧ w'.cell? ⟨ad.block, ad.off + 1, none⟩ = some (.int .u8 (x1 : Int)) ∧ Below w.heap.size w w' ∧ PR8 w' w.heap.size (.slice A4 ps.length c4) ps) (ds := [18]) #[false, false, false, false, false, false, false, false, false, false, false, false, false, false, false, false, false, false, false, false] (by kernel_rfl) rfl rfl ⟨pw_cell_below (below_drew1 HS5.out.bel) Q0W.out.1, pw_cell_below (below_drew1 HS5.out.bel) Q0W.out.2, below_drew1 HS5.out.bel, Kd.R_drewN HS5.out.row 1⟩ (fun hHeld => ?_)
                   refine pure_ (i := 0) (N := some 51) (v := ?_) (a' := ?_) #[true, false, false, false, false, false, false, false, false, false, false, false, false, false, false, false, false, false, false, false] rfl rfl (by kernel_rfl) (fun _ _ _ h => h) (Or.inl ⟨by rfl, ?_⟩) ?_ ?_
                   rotate_left
                   · intro w'
                     go_simp
                     with_reducible rfl
                   rotate_left
                   · simp only [Act.put, List.setIfInBounds_toArray, List.set_cons_zero, List.set_cons_succ, i64_w, i32_w]
                     rfl
                   refine pure_ (i := 1) (N := some 52) (v := ?_) (a' := ?_) #[true, true, false, false, false, false, false, false, false, false, false, false, false, false, false, false, false, false, false, false] rfl rfl (by kernel_rfl) (fun _ _ _ h => h) (Or.inl ⟨by rfl, ?_⟩) ?_ ?_
                   rotate_left
                   · intro w'
                     go_simp
                     with_reducible rfl
                   rotate_left
                   · simp only [Act.put, List.setIfInBounds_toArray, List.set_cons_zero, List.set_cons_succ, i64_w, i32_w]
                     rfl
                   refine pure_ (i := 2) (N := some 53) (v := ?_) (a' := ?_) #[true, true, true, false, false, false, false, false, false, false, false, false, false, false, false, false, false, false, false, false] rfl rfl (by kernel_rfl) (fun _ _ _ h => h) (Or.inl ⟨by rfl, ?_⟩) ?_ ?_
                   rotate_left
                   · intro w'
                     go_simp
                     with_reducible rfl
                   rotate_left
                   · simp only [Act.put, List.setIfInBounds_toArray, List.set_cons_zero, List.set_cons_succ, i64_w, i32_w]
                     rfl
                   refine pure_ (i := 6) (N := some 57) (v := ?_) (a' := ?_) #[true, true, true, false, false, false, true, false, false, false, false, false, false, false, false, false, false, false, false, false] rfl rfl (by kernel_rfl) (fun _ _ _ h => h) (Or.inl ⟨by rfl, ?_⟩) ?_ ?_
                   rotate_left
                   · intro w'
                     go_simp
                     with_reducible rfl
                   rotate_left
                   · simp only [Act.put, List.setIfInBounds_toArray, List.set_cons_zero, List.set_cons_succ, i64_w, i32_w]
                     rfl
                   refine pure_ (i := 7) (N := some 58) (v := ?_) (a' := ?_) #[true, true, true, false, false, false, true, true, false, false, false, false, false, false, false, false, false, false, false, false] rfl rfl (by kernel_rfl) (fun _ _ _ h => h) (Or.inl ⟨by rfl, ?_⟩) ?_ ?_
                   rotate_left
                   · intro w'
                     go_simp
                     with_reducible rfl
                   rotate_left
                   · simp only [Act.put, List.setIfInBounds_toArray, List.set_cons_zero, List.set_cons_succ, i64_w, i32_w]
                     rfl
                   refine pure_ (i := 12) (N := some 63) (v := ?_) (a' := ?_) #[true, true, true, false, false, false, true, true, false, false, false, false, true, false, false, false, false, false, false, false] rfl rfl (by kernel_rfl) (fun _ _ _ h => h) (Or.inl ⟨by rfl, ?_⟩) ?_ ?_
                   rotate_left
                   · intro w'
                     go_simp
                     with_reducible rfl
                   rotate_left
                   · simp only [Act.put, List.setIfInBounds_toArray, List.set_cons_zero, List.set_cons_succ, i64_w, i32_w]
                     rfl
                   refine pure_ (i := 13) (N := some 64) (v := ?_) (a' := ?_) #[true, true, true, false, false, false, true, true, false, false, false, false, true, true, false, false, false, false, false, false] rfl rfl (by kernel_rfl) (fun _ _ _ h => h) (Or.inl ⟨by rfl, ?_⟩) ?_ ?_
                   rotate_left
                   · intro w'
                     go_simp
                     with_reducible rfl
                   rotate_left
                   · simp only [Act.put, List.setIfInBounds_toArray, List.set_cons_zero, List.set_cons_succ, i64_w, i32_w]
                     rfl
                   refine pure_ (i := 14) (N := some 65) (v := ?_) (a' := ?_) #[true, true, true, false, false, false, true, true, false, false, false, false, true, true, true, false, false, false, false, false] rfl rfl (by kernel_rfl) (fun _ _ _ h => h) (Or.inl ⟨by rfl, ?_⟩) ?_ ?_
                   rotate_left
                   · intro w'
                     go_simp
                     with_reducible rfl
                   rotate_left
                   · simp only [Act.put, List.setIfInBounds_toArray, List.set_cons_zero, List.set_cons_succ, i64_w, i32_w]
                     rfl
                   refine take_ (i := 3) (N := some 54) (v := ?_) (a' := ?_) #[true, true, true, true, false, false, true, true, false, false, false, false, true, true, true, false, false, false, false, false] rfl rfl (by kernel_rfl) (fun _ _ _ h => h) (Or.inl ⟨by rfl, ?_⟩) hHeld ?_ ?_
                   rotate_left
                   · rintro w' ⟨s0, s1, s2, s3⟩
                     go_simp
                     with_reducible rfl
                   rotate_left
                   · simp only [Act.put, List.setIfInBounds_toArray, List.set_cons_zero, List.set_cons_succ, i64_w, i32_w]
                     rfl
                   refine pure_ (i := 4) (N := some 55) (v := ?_) (a' := ?_) #[true, true, true, true, true, false, true, true, false, false, false, false, true, true, true, false, false, false, false, false] rfl rfl (by kernel_rfl) (fun _ _ _ h => h) (Or.inl ⟨by rfl, ?_⟩) ?_ ?_
                   rotate_left
                   · intro w'
                     go_simp
                     with_reducible rfl
                   rotate_left
                   · simp only [Act.put, List.setIfInBounds_toArray, List.set_cons_zero, List.set_cons_succ, i64_w, i32_w]
                     rfl
                   refine pure_ (i := 5) (N := some 56) (v := ?_) (a' := ?_) #[true, true, true, true, true, true, true, true, false, false, false, false, true, true, true, false, false, false, false, false] rfl rfl (by kernel_rfl) (fun _ _ _ h => h) (Or.inl ⟨by rfl, ?_⟩) ?_ ?_
                   rotate_left
                   · intro w'
                     go_simp
                     with_reducible rfl
                   rotate_left
                   · simp only [Act.put, List.setIfInBounds_toArray, List.set_cons_zero, List.set_cons_succ, i64_w, i32_w]
                     rfl
                   refine take_ (i := 8) (N := some 59) (v := ?_) (a' := ?_) #[true, true, true, true, true, true, true, true, true, false, false, false, true, true, true, false, false, false, false, false] rfl rfl (by kernel_rfl) (fun _ _ _ h => h) (Or.inl ⟨by rfl, ?_⟩) hHeld ?_ ?_
                   rotate_left
                   · rintro w' ⟨s0, s1, s2, s3⟩
                     go_simp
                     with_reducible rfl
                   rotate_left
                   · simp only [Act.put, List.setIfInBounds_toArray, List.set_cons_zero, List.set_cons_succ, i64_w, i32_w]
                     rfl
                   refine pure_ (i := 9) (N := some 60) (v := ?_) (a' := ?_) #[true, true, true, true, true, true, true, true, true, true, false, false, true, true, true, false, false, false, false, false] rfl rfl (by kernel_rfl) (fun _ _ _ h => h) (Or.inl ⟨by rfl, ?_⟩) ?_ ?_
                   rotate_left
                   · intro w'
                     go_simp
                     with_reducible rfl
                   rotate_left
                   · simp only [Act.put, List.setIfInBounds_toArray, List.set_cons_zero, List.set_cons_succ, i64_w, i32_w]
                     rfl
                   refine pure_ (i := 10) (N := some 61) (v := ?_) (a' := ?_) #[true, true, true, true, true, true, true, true, true, true, true, false, true, true, true, false, false, false, false, false] rfl rfl (by kernel_rfl) (fun _ _ _ h => h) (Or.inl ⟨by rfl, ?_⟩) ?_ ?_
                   rotate_left
                   · intro w'
                     go_simp
                     with_reducible rfl
                   rotate_left
                   · simp only [Act.put, List.setIfInBounds_toArray, List.set_cons_zero, List.set_cons_succ, i64_w, i32_w]
                     rfl
                   refine one_ (i := 11) (N := some 62) #[true, true, true, true, true, true, true, true, true, true, true, true, true, true, true, false, false, false, false, false] rfl rfl (by kernel_rfl) (by decide) (fun K hK => ?_)
                   refine value_ (w1 := ?_) (v := ?_) (by rfl) rfl ?_ ?_
                   rotate_left 2
                   · go_simp
                     constructor
                     · rfl
                     · rfl
                   refine hK.out _ _ ⟨pw_cell_below (hHeld.2.2.1.alloc hHeld.2.2.1.size _) Q0W.out.1, pw_cell_below (hHeld.2.2.1.alloc hHeld.2.2.1.size _) Q0W.out.2, hHeld.2.2.1.alloc hHeld.2.2.1.size _, Kd.R_alloc hHeld.2.2.2 _⟩ (fun hHeld => ?_)
                   clear hK K
                   refine norm_ (a' := ?_) ?_ ?_
                   rotate_left
                   · show Act.put _ (some 62) _ = _
                     simp only [Act.put, List.setIfInBounds_toArray, List.set_cons_zero, List.set_cons_succ, i64_w, i32_w]
                     rfl
                   refine one_ (i := 15) (N := some 66) #[true, true, true, true, true, true, true, true, true, true, true, true, true, true, true, true, false, false, false, false] rfl rfl (by kernel_rfl) (by decide) (fun K hK => ?_)
                   refine Kd.R_append_rows_step (Kd.int .u8) (w0 := w) w.heap.size ?hw (.tmp 62) (.tmp 65) 26 5 (.int .u8 0) 1 ?ho Try.underlying26 info5 rfl (by decide) (by decide) (.slice (some ⟨wr.heap.size, 0, none⟩) 0 0) [] V A6 M (c2 - 4) (fun _ => True) (fun _ => False) ?aA ?aC ?aO ?aR (fun _ _ h => h) (fun _ h => h.elim) (fun _ _ => trivial) ?aB ?aS ?aL ?_
                   case hw => rfl
                   case ho => rfl
                   case aA => rfl
                   case aC => rfl
                   case aO => exact HO0.out
                   case aR => exact HCV.out _ HBD.out
                   case aB => exact HBD.out
                   case aS => exact Nat.le_trans HS5.out.bel.size (by simp)
                   case aL => exact HML.out
                   intro v7 w7 ho hb hg hn
                   rw [List.nil_append] at ho
                   have HV7 := Aside0.mk ho
                   have HB7 := Aside0.mk hb
                   have HP7 := Aside0.mk ((fun h1 => pr8_new (g := wr.heap.size) (w5 := wr) HS5.out.row h1 hg rfl) rfl)
                   clear ho hg hn
                   obtain ⟨A7, c7, rfl⟩ := Kd.R_slice HV7.out
                   refine hK.out _ _ ⟨pw_cell_below hb Q0W.out.1, pw_cell_below hb Q0W.out.2, hb, HP7.out⟩ (fun hHeld => ?_)
                   clear hK K
                   refine norm_ (a' := ?_) ?_ ?_
                   rotate_left
                   · show Act.put _ (some 66) _ = _
                     simp only [Act.put, List.setIfInBounds_toArray, List.set_cons_zero, List.set_cons_succ, i64_w, i32_w]
                     rfl
                   refine pure_ (i := 16) (N := some 67) (v := ?_) (a' := ?_) #[true, true, true, true, true, true, true, true, true, true, true, true, true, true, true, true, true, false, false, false] rfl rfl (by kernel_rfl) (fun _ _ _ h => h) (Or.inl ⟨by rfl, ?_⟩) ?_ ?_
                   rotate_left
                   · intro w'
                     go_simp
                     with_reducible rfl
                   rotate_left
                   · simp only [Act.put, List.setIfInBounds_toArray, List.set_cons_zero, List.set_cons_succ, i64_w, i32_w]
                     rfl
                   refine one_ (i := 17) (N := some 68) #[true, true, true, true, true, true, true, true, true, true, true, true, true, true, true, true, true, true, false, false] rfl rfl (by kernel_rfl) (by decide) (fun K hK => ?_)
                   refine value_ (w1 := ?_) (v := ?_) (by rfl) rfl ?_ ?_
                   rotate_left 2
                   · go_simp
                     constructor
                     · rfl
                     · rfl
                   refine hK.out _ _ ⟨pw_cell_below (hHeld.2.2.1.alloc hHeld.2.2.1.size _) Q0W.out.1, pw_cell_below (hHeld.2.2.1.alloc hHeld.2.2.1.size _) Q0W.out.2, hHeld.2.2.1.alloc hHeld.2.2.1.size _, Kd.R_alloc hHeld.2.2.2 _⟩ (fun hHeld => ?_)
                   clear hK K
                   refine norm_ (a' := ?_) ?_ ?_
                   rotate_left
                   · show Act.put _ (some 68) _ = _
                     simp only [Act.put, List.setIfInBounds_toArray, List.set_cons_zero, List.set_cons_succ, i64_w, i32_w]
                     rfl
                   refine last_ (i := 18) (N := some 69) #[true, true, true, true, true, true, true, true, true, true, true, true, true, true, true, true, true, true, true, false] rfl rfl (by kernel_rfl) (by decide) (fun K hK => ?_)
                   refine Kd.R_append_step PAR (w0 := w) (W := w7) w.heap.size ?hw (.tmp 51) (.tmp 68) 60 68 (.agg #[.int .i64 0, .slice none 0 0]) 32 ?ho Try.underlying60 info68 rfl (by decide) (by decide) (.slice A4 ps.length c4) ps (wrap64 (wrap64 (wrap64 (x0 : Int) * 256) + wrap64 (x1 : Int)), V) [.int .i64 (wrap64 (wrap64 (wrap64 (x0 : Int) * 256) + wrap64 (x1 : Int))), .slice A7 V.length c7] (fun _ => True) (fun q => some q ≠ (Value.slice A4 ps.length c4).ownBlock) ?aA ?aC ?aD (fun _ h => ⟨trivial, h⟩) (fun _ _ => trivial) ?aO ?aB ?aS ?aL ?_
                   case hw => rfl
                   case ho => rfl
                   case aA => rfl
                   case aC => rfl
                   case aD => exact par_m8 HP7.out HV7.out
                   case aO => exact HP7.out
                   case aB => exact HB7.out
                   case aS => exact HB7.out.size
                   case aL => exact HNP.out
                   intro v9 w9 ho9 hb9 hg9 hn9
                   have HO9 := Aside0.mk ho9
                   have HB9 := Aside0.mk hb9
                   clear ho9 hb9 hg9 hn9
                   obtain ⟨A9, c9, rfl⟩ := Kd.R_slice HO9.out
                   refine hK.out _ _ ?_
                   clear hK K
                   refine norm_ (a' := ?_) ?_ ?_
                   rotate_left
                   · show Act.put _ (some 69) _ = _
                     simp only [Act.put, List.setIfInBounds_toArray, List.set_cons_zero, List.set_cons_succ, i64_w, i32_w]
                     rfl
                   refine pure_ (i := 19) (N := some 4) (v := ?_) (a' := ?_) #[true, true, true, true, true, true, true, true, true, true, true, true, true, true, true, true, true, true, true, true] rfl rfl (by kernel_rfl) (fun _ _ _ h => h) (Or.inl ⟨by rfl, ?_⟩) ?_ ?_
                   rotate_left
                   · intro w'
                     go_simp
                     with_reducible rfl
                   rotate_left
                   · simp only [Act.put, List.setIfInBounds_toArray, List.set_cons_zero, List.set_cons_succ, i64_w, i32_w]
                     rfl
                   refine done_ (by kernel_rfl) ?_
                   go_wp2_with fail
                   go_meet
                   exact ⟨_, _, rfl, ⟨by have h := HO9.out; rw [List.length_append, List.length_singleton, HKE.out] at h; exact h⟩, HB9⟩
                  case rest =>
                   obtain ⟨A9, c9, rfl, HP9, HB9⟩ := hcut
                   obtain ⟨A8, hrun8, hrd8⟩ := print_cut_of (P := Try.prog) (Value.int .u8) (0 : Int) 26 5 .i64 Try.underlying26 HI0.out.1 HI0.out.2 (some ad) d.length c2 k (by omega)
                   have HRD8 := Aside0.mk hrd8
                   clear hrd8 q05 q15 hxa0 hxa1 hrun
                   go_wp2_with fail
                   go_roundg k1
                   case measure => omega
                   case rel =>
                    have hcc := HS5.out.cap
                    have hrd9 : Kd.C (Kd.int .u8) w A8 (d.length - k) (d.drop k) := Kd.C_of_reads (HRD8.out w d hcc (Kd.reads_of_C HS5.out.cells))
                    have hp9 := HP9.out
                    rw [HVV.out.1] at hp9
                    have hr9 := rcome_next (vo9 := .slice A9 (ps.length + 1) c9) HS5.out hne.out N k HNO.out HT.out (by omega) (by omega) (by omega) HZ.out hrd9 hp9 HB9.out
                    have hdl : (d.drop k).length = d.length - k := List.length_drop
                    refine ⟨A8, c2 - k, d.drop k, A9, c9, ps ++ [(((val (d.take 2) : Nat) : Int), (d.take N).drop 4)], by rw [hdl], by rw [List.length_append, List.length_singleton], ⟨?_⟩, ⟨?_⟩⟩
                    · rw [List.length_append, List.length_singleton]
                      exact hr9
                    · rw [hdl]
                      have := HK.out
                      omega
end Go.Proofs.Ytjhciagjofhhiaa.Tl
