import Derived.Test.YtkginabioolmiaaGpK
import Derived.Test.YtkginabioolmiaaGpL
/- The walk of GapsFresh. -/
namespace Go.Proofs.Ytkginabioolmiaa.Gp
open Go.RowKit Go.Shelf Go.Maps Go.Proofs.YtkginabioolmiaaW.PrintWords Go.Proofs.YtkginabioolmiaaW.PrintLast Go.Proofs.YtkginabioolmiaaW.PrintMore Go.Proofs.Ytkginabioolmiaa.Sh
set_option linter.unusedVariables false
set_option linter.unusedSimpArgs false
theorem law3 : Keyed Try.prog 3 := int_keyed Try.underlying3
theorem zero3 (w : World) : (zeroValue 3).run Try.prog w = .ok (.int .i64 0) w := by kernel_rfl
/-- Between two rounds: the tracker, the map of what has come. -/
structure FI (W : World) (p M : Nat) (c0 c : Int) (ks : List Nat) (xs ds : List Int) (S : Nat → Prop) (D : DataW Unit) (wr : World) : Prop where
  own : Own W p c xs ds S wr
  map : wr.ownsMap Try.prog 3 (plainElem Try.prog 3) M ks.length D
  apart : ¬ S M
  fr : ∃ L, Fr c0 ks c xs L
  cnt : Cnt D ks
  rng : ∀ m ∈ ks, 1 ≤ m ∧ m ≤ 60
  hM : W.heap.size ≤ M
theorem FI.take {W wr : World} {p M n : Nat} {c0 c : Int} {ks : List Nat} {xs ds : List Int} {S : Nat → Prop} {D : DataW Unit} (h : FI W p M c0 c ks xs ds S D wr) (h1 : 1 ≤ n) (h2 : n ≤ 60) (hl : xs.length ≤ 900) :
    Calls Try.prog 10 #[.pointer (some ⟨p, 0, none⟩), .int .u32 (nth c0 n)] wr fun e w' => e = .returned (.tuple #[.bool (!(decide (n ∈ ks))), .nilIface]) ∧ ∃ c2 xs2 ds2 S2, Own W p c2 xs2 ds2 S2 w' ∧ w'.ownsMap Try.prog 3 (plainElem Try.prog 3) M ks.length D ∧ ¬ S2 M ∧ (∃ L, Fr c0 (n :: ks) c2 xs2 L) ∧ xs2.length ≤ xs.length + 1 := by
  obtain ⟨L, hf⟩ := h.fr
  obtain ⟨e1, e2, e3⟩ := fr_take (ds := ds) hf h1 h2
  refine (own_take h.own hf.gd.srt hl hf.gd.c32 hf.gd.u32 (nth c0 n) (nth_u32 c0 n)).mono ?_
  rintro e w' ⟨rfl, S2, ho, hc⟩
  rw [e1, e2]
  have hMl := h.map.lt
  refine ⟨rfl, _, _, _, S2, ho, ?_, fun hS => ?_, e3, take_len _ _ _ _⟩
  · have hb := hc.block M hMl h.apart
    obtain ⟨es, clock, hb2, r⟩ := h.map
    exact ⟨es, clock, hb.trans hb2, r⟩
  · rcases hc.new M hS with h3 | h3
    · exact h.apart h3
    · omega
/-- A number has come. -/
theorem FI.put {W wr w4 : World} {p M n : Nat} {c0 c2 : Int} {ks : List Nat} {xs2 ds2 : List Int} {S2 : Nat → Prop} {D : DataW Unit} (ho : Own W p c2 xs2 ds2 S2 wr) (ha : ¬ S2 M) (hf : ∃ L, Fr c0 (n :: ks) c2 xs2 L) (hD : Cnt D ks) (hr : ∀ m ∈ ks, 1 ≤ m ∧ m ≤ 60) (h1 : 1 ≤ n) (h2 : n ≤ 60) (hM : W.heap.size ≤ M) (hMl : M < wr.heap.size)
    (hm : w4.ownsMap Try.prog 3 (plainElem Try.prog 3) M (ks.length + 1) (D.put (.int .i64 (n : Int)) (.lit (.int .i64 ((ks.count n : Nat) + 1 : Int))))) (hg : wr.grownBy w4 (some M)) :
    FI W p M c0 c2 (n :: ks) xs2 ds2 S2 (D.put (.int .i64 (n : Int)) (.lit (.int .i64 ((ks.count n : Nat) + 1 : Int)))) w4 :=
  ⟨⟨ho.tr.keep (fun k hk => hg.block k (ho.lt k hk) (fun e => ha (by injection e with e; rw [← e]; exact hk))), ho.bel.grown hg ho.bel.size (fun k hk => by injection hk with hk; rw [← hk]; exact hM), ho.base, fun k hk => Nat.lt_of_lt_of_le (ho.lt k hk) hg.size⟩, hm, ha, hf, cnt_put hD n, fun m hm => by
    rcases List.mem_cons.1 hm with rfl | hm
    · exact ⟨h1, h2⟩
    · exact hr m hm, hM⟩
set_option maxRecDepth 100000 in
theorem FI.look {w5 : World} {M n L : Nat} {ks : List Nat} {D : DataW Unit} (hm : w5.ownsMap Try.prog 3 (plainElem Try.prog 3) M L D) (hD : Cnt D ks) (hn : n ≤ 100) : (Instr.lookup 28 (.map (some M)) (.int .i64 (n : Int)) false).run Try.prog w5 = .ok (.int .i64 ((ks.count n : Nat) : Int)) w5 := by
  have hwf : (Lit.int .i64 (n : Int)).wf = true := by simp [Lit.wf, IntKind.min, IntKind.max, IntKind.signed, IntKind.bits]; omega
  obtain ⟨q, hrun, hat, _⟩ := hm.lookup_int law3 Try.underlying28 Try.underlying3 (zero3 _) (keyOf_int_mk Try.underlying3 hwf)
  rw [hD.2 n] at hat
  injection hat with hat
  injection hat with _ hat
  rw [hrun, ← hat]
theorem u64_rem (a : Int) (n : Nat) (h0 : 0 < n) (h1 : n ≤ 1048576) : ∃ k : Nat, wrap64 ((IntKind.u64.wrap a).tmod n) = k ∧ k < n := by
  have h : IntKind.u64.wrap a = a % 18446744073709551616 := by rfl
  rw [h, Int.tmod_eq_emod_of_nonneg (by omega)]
  have hb : 0 ≤ a % 18446744073709551616 % (n : Int) := Int.emod_nonneg _ (by omega)
  have hb2 : a % 18446744073709551616 % (n : Int) < n := Int.emod_lt_of_pos _ (by omega)
  refine ⟨(a % 18446744073709551616 % (n : Int)).toNat, ?_, by omega⟩
  unfold wrap64
  omega
theorem many60 (a : Int) : ∃ m : Nat, wrap64 ((IntKind.u64.wrap a).tmod 60) = (m : Int) ∧ m < 60 := u64_rem a 60 (by decide) (by decide)
theorem one60 (a : Int) : ∃ m : Nat, wrap64 (1 + wrap64 ((IntKind.u64.wrap a).tmod 60)) = (m : Int) ∧ 1 ≤ m ∧ m ≤ 60 := by
  obtain ⟨m, h1, h2⟩ := many60 a
  rw [h1]
  exact ⟨m + 1, by unfold wrap64; omega, by omega, by omega⟩
set_option maxRecDepth 100000 in
set_option maxHeartbeats 4000000 in
theorem gapsFresh_main (W : World) (a0 : Int) (A1 : Option Addr) (c1 : Nat) (l1 : List Int) (a2 : Int) (w0 : U32 a0) (hr1 : Kd.C (Kd.int .i64) W A1 l1.length l1) (hl : l1.length ≤ 200) :
    Calls Try.prog 3 #[.int .u32 a0, .slice A1 l1.length c1, .int .i64 a2] W (Yes W) := by
  have HA := Aside0.mk (alive_calls W)
  have HC := Aside0.mk hr1
  have H0 := Aside0.mk w0
  have hn0 : ¬ ((200 : Int) < (l1.length : Int)) := by omega
  have hmm := @run_makeMap Try.prog
  clear hr1 w0
  go_enter Try.func3, Try.ntmps3
  go_wp2_with (first | (go_at_call 8; refine HA.out.mono ?_; rintro e w2 ⟨rfl, hb⟩; have HB2 := Aside0.mk hb; clear hb) | (go_at_call 9; refine (new_calls _ W.heap.size a0 HB2.out.size).mono ?_; rintro e w3 ⟨rfl, hT, hb⟩; have HT3 := Aside0.mk hT; have HB3 := Aside0.mk hb; clear hT hb))
  have hO : Own W w2.heap.size a0 [] [] (fun k => k = w2.heap.size) w3 := ⟨HT3.out, HB2.out.trans (HB3.out.mono HB2.out.size), fun k hk => by have hk' : k = w2.heap.size := hk; rw [hk']; exact HB2.out.size, fun k hk => by have hk' : k = w2.heap.size := hk; rw [hk']; obtain ⟨v, u, hT', _⟩ := HT3.out; exact hT'.lt⟩
  have hF : FI W w2.heap.size w3.heap.size a0 a0 [] [] [] (fun k => k = w2.heap.size) (.map []) (w3.alloc (.map #[] 0)) := ⟨hO.below (below_alloc (Below.refl _ _) _), World.ownsMap_made _ _ _ _, fun h => by have := hO.lt _ h; omega, ⟨0, fr_new H0.out⟩, cnt_new, fun m hm => absurd hm (by simp), hO.bel.size⟩
  obtain ⟨p, hp⟩ : ∃ p, p = w2.heap.size := ⟨_, rfl⟩
  obtain ⟨M, hM⟩ : ∃ M, M = w3.heap.size := ⟨_, rfl⟩
  obtain ⟨w4, hw4⟩ : ∃ w4, w4 = w3.alloc (.map #[] 0) := ⟨_, rfl⟩
  rw [← hp, ← hM, ← hw4] at hF
  rw [← hp, ← hM, ← hw4]
  have HF := Aside0.mk hF
  obtain ⟨mm, hmy, hm60⟩ := many60 a2
  rw [hmy]
  clear hF hO hp hM hw4 hmy HT3 HB3 HB2 HA H0 hmm
  go_loopw [32] (fun i wr => ∃ (k : Nat) (c : Int) (ks : List Nat) (xs ds : List Int) (S : Nat → Prop) (D : DataW Unit), k ≤ l1.length ∧ i = .int .i64 (k : Nat) ∧ Aside0 (FI W p M a0 c ks xs ds S D wr ∧ xs.length ≤ k ∧ ks.length ≤ k)) (fun i _ => l1.length - (intOf i).toNat)
  case atStart => exact ⟨0, a0, [], [], [], _, _, Nat.zero_le _, rfl, ⟨HF.out, Nat.zero_le _, Nat.zero_le _⟩⟩
  case round =>
    obtain ⟨k, c, ks, xs, ds, S, D, hk, rfl, HI⟩ := hrel
    by_cases hlt : k < l1.length
    · have hlt2 : (k : Int) < (l1.length : Int) := by omega
      obtain ⟨ad, rfl, hcell⟩ := Kd.at_int (Kd.C_below HC.out HI.out.1.own.bel) (k : Int) (by omega) (by omega)
      rw [Int.toNat_natCast] at hcell
      obtain ⟨x, hx⟩ : ∃ x, x = rd l1 (k : Int) := ⟨_, rfl⟩
      rw [← hx] at hcell
      clear hx
      obtain ⟨n, hny, hn1, hn2⟩ := one60 x
      have HN := Aside0.mk hny
      have HNR := Aside0.mk (And.intro hn1 hn2)
      have HT := Aside0.mk (HI.out.1.take hn1 hn2 (by have := HI.out.2.1; omega))
      unfold nth at HT
      clear hny
      go_wp2_with fail
      rw [HN.out]
      refine HT.out.mono ?_
      rintro e w5 ⟨rfl, c2, xs2, ds2, S2, ho5, hm5, ha5, hf5, hl5⟩
      have hrun := FI.look hm5 HI.out.1.cnt (n := n) (by omega)
      obtain ⟨q, hq⟩ : ∃ q, q = ks.count n := ⟨_, rfl⟩
      rw [← hq] at hrun
      have hql : q ≤ 600 := by have := List.count_le_length (a := n) (l := ks); have := HI.out.2.2; omega
      have HWF := Aside0.mk (show (Lit.int .i64 ((q : Int) + 1)).wf = true by simp [Lit.wf, IntKind.min, IntKind.max, IntKind.signed, IntKind.bits]; omega)
      have HKW := Aside0.mk (show (Lit.int .i64 (n : Int)).wf = true by simp [Lit.wf, IntKind.min, IntKind.max, IntKind.signed, IntKind.bits]; omega)
      have HLM := Aside0.mk (show ks.length < maxLen by have := HI.out.2.2; unfold maxLen; omega)
      have HM5 := Aside0.mk hm5
      have HPUT := Aside0.mk (fun w6 => FI.put (w4 := w6) ho5 ha5 hf5 HI.out.1.cnt HI.out.1.rng HNR.out.1 HNR.out.2 HI.out.1.hM hm5.lt)
      rw [← hq] at HPUT
      have HQ := Aside0.mk hq
      have HL5 := Aside0.mk hl5
      clear ho5 hm5 ha5 hf5 hl5 hq
      by_cases hmem : n ∈ ks
      · have hd : decide (n ∈ ks) = true := decide_eq_true hmem
        have hq0 : ((q : Int) == 0) = false := by
          have := List.count_pos_iff.2 hmem
          have := HQ.out
          simp
          omega
        rw [hd]
        clear hmem hd
        go_wp2_with (first | (at_mapUpdate; refine wpList_mapUpdate_own _ rfl _ _ _ 28 rfl 3 3 law3 Try.underlying28 _ M ks.length _ rfl HM5.out HLM.out _ _ (.int .i64 (n : Int)) rfl rfl (keyOf_int_mk Try.underlying3 HKW.out) _ [] (plainElem_int Try.underlying3 HWF.out) ?_; intro w6 hown6 hgrow6))
        exact ⟨⟨k + 1, c2, n :: ks, xs2, ds2, S2, _, by omega, by go_num, ⟨HPUT.out w6 hown6 hgrow6, by have := HL5.out; have := HI.out.2.1; omega, by have := HI.out.2.2; simp; omega⟩⟩, by simp [intOf]; omega⟩
      · have hd : decide (n ∈ ks) = false := decide_eq_false hmem
        have hq0 : q = 0 := by
          rw [HQ.out]
          exact List.count_eq_zero.2 hmem
        subst hq0
        rw [hd]
        clear hmem hd
        go_wp2_with (first | (at_mapUpdate; refine wpList_mapUpdate_own _ rfl _ _ _ 28 rfl 3 3 law3 Try.underlying28 _ M ks.length _ rfl HM5.out HLM.out _ _ (.int .i64 (n : Int)) rfl rfl (keyOf_int_mk Try.underlying3 HKW.out) _ [] (plainElem_int Try.underlying3 HWF.out) ?_; intro w6 hown6 hgrow6))
        exact ⟨⟨k + 1, c2, n :: ks, xs2, ds2, S2, _, by omega, by go_num, ⟨HPUT.out w6 hown6 hgrow6, by have := HL5.out; have := HI.out.2.1; omega, by have := HI.out.2.2; simp; omega⟩⟩, by simp [intOf]; omega⟩
    · obtain rfl : k = l1.length := by omega
      have HI0 := Aside0.mk HI.out
      clear HI
      go_wp2_with fail
      go_loopw [14] (fun i wr => ∃ (k : Nat) (c : Int) (ks : List Nat) (xs ds : List Int) (S : Nat → Prop) (D : DataW Unit), 1 ≤ k ∧ k ≤ mm + 1 ∧ i = .int .i64 (k : Nat) ∧ Aside0 (FI W p M a0 c ks xs ds S D wr ∧ xs.length ≤ 200 + k ∧ ks.length ≤ 200 + k ∧ ∀ m, 1 ≤ m → m < k → m ∈ ks)) (fun i _ => mm + 1 - (intOf i).toNat)
      case atStart => exact ⟨1, c, ks, xs, ds, S, D, Nat.le_refl _, by omega, rfl, ⟨HI0.out.1, by have := HI0.out.2.1; omega, by have := HI0.out.2.2; omega, fun m h1 h2 => absurd h2 (by omega)⟩⟩
      case round =>
        clear HI0
        obtain ⟨k, c, ks, xs, ds, S, D, hk1, hk, rfl, HI⟩ := hrel
        by_cases hlt : k ≤ mm
        · have hlt2 : (k : Int) ≤ (mm : Int) := by omega
          have hk32 : (k : Int) % 4294967296 = (k : Int) := by omega
          have HNR := Aside0.mk (show 1 ≤ k ∧ k ≤ 60 by omega)
          have HT := Aside0.mk (HI.out.1.take HNR.out.1 HNR.out.2 (by have := HI.out.2.1; omega))
          unfold nth at HT
          go_wp2_with fail
          refine HT.out.mono ?_
          rintro e w5 ⟨rfl, c2, xs2, ds2, S2, ho5, hm5, ha5, hf5, hl5⟩
          have hrun := FI.look hm5 HI.out.1.cnt (n := k) (by omega)
          obtain ⟨q, hq⟩ : ∃ q, q = ks.count k := ⟨_, rfl⟩
          rw [← hq] at hrun
          have hql : q ≤ 600 := by have := List.count_le_length (a := k) (l := ks); have := HI.out.2.2.1; omega
          have HWF := Aside0.mk (show (Lit.int .i64 ((q : Int) + 1)).wf = true by simp [Lit.wf, IntKind.min, IntKind.max, IntKind.signed, IntKind.bits]; omega)
          have HKW := Aside0.mk (show (Lit.int .i64 (k : Int)).wf = true by simp [Lit.wf, IntKind.min, IntKind.max, IntKind.signed, IntKind.bits]; omega)
          have HLM := Aside0.mk (show ks.length < maxLen by have := HI.out.2.2.1; unfold maxLen; omega)
          have HM5 := Aside0.mk hm5
          have HPUT := Aside0.mk (fun w6 => FI.put (w4 := w6) ho5 ha5 hf5 HI.out.1.cnt HI.out.1.rng HNR.out.1 HNR.out.2 HI.out.1.hM hm5.lt)
          rw [← hq] at HPUT
          have HQ := Aside0.mk hq
          have HL5 := Aside0.mk hl5
          clear ho5 hm5 ha5 hf5 hl5 hq
          by_cases hmem : k ∈ ks
          · have hd : decide (k ∈ ks) = true := decide_eq_true hmem
            have hq0 : ((q : Int) == 0) = false := by
              have := List.count_pos_iff.2 hmem
              have := HQ.out
              simp
              omega
            rw [hd]
            clear hmem hd
            go_wp2_with (first | (at_mapUpdate; refine wpList_mapUpdate_own _ rfl _ _ _ 28 rfl 3 3 law3 Try.underlying28 _ M ks.length _ rfl HM5.out HLM.out _ _ (.int .i64 (k : Int)) rfl rfl (keyOf_int_mk Try.underlying3 HKW.out) _ [] (plainElem_int Try.underlying3 HWF.out) ?_; intro w6 hown6 hgrow6))
            exact ⟨⟨k + 1, c2, k :: ks, xs2, ds2, S2, _, by omega, by omega, by go_num, ⟨HPUT.out w6 hown6 hgrow6, by have := HL5.out; have := HI.out.2.1; omega, by have := HI.out.2.2.1; simp; omega, fun m hm1 hm2 => by
              rcases Nat.lt_or_eq_of_le (Nat.le_of_lt_succ hm2) with h | h
              · exact List.mem_cons_of_mem _ (HI.out.2.2.2 m hm1 h)
              · rw [h]; exact List.mem_cons_self⟩⟩, by simp [intOf]; omega⟩
          · have hd : decide (k ∈ ks) = false := decide_eq_false hmem
            have hq0 : q = 0 := by
              rw [HQ.out]
              exact List.count_eq_zero.2 hmem
            subst hq0
            rw [hd]
            clear hmem hd
            go_wp2_with (first | (at_mapUpdate; refine wpList_mapUpdate_own _ rfl _ _ _ 28 rfl 3 3 law3 Try.underlying28 _ M ks.length _ rfl HM5.out HLM.out _ _ (.int .i64 (k : Int)) rfl rfl (keyOf_int_mk Try.underlying3 HKW.out) _ [] (plainElem_int Try.underlying3 HWF.out) ?_; intro w6 hown6 hgrow6))
            exact ⟨⟨k + 1, c2, k :: ks, xs2, ds2, S2, _, by omega, by omega, by go_num, ⟨HPUT.out w6 hown6 hgrow6, by have := HL5.out; have := HI.out.2.1; omega, by have := HI.out.2.2.1; simp; omega, fun m hm1 hm2 => by
              rcases Nat.lt_or_eq_of_le (Nat.le_of_lt_succ hm2) with h | h
              · exact List.mem_cons_of_mem _ (HI.out.2.2.2 m hm1 h)
              · rw [h]; exact List.mem_cons_self⟩⟩, by simp [intOf]; omega⟩
        · obtain rfl : k = mm + 1 := by omega
          have hlt2 : ¬ (((mm + 1 : Nat) : Int) ≤ (mm : Int)) := by omega
          have HI1 := Aside0.mk HI.out
          obtain ⟨L, hfr⟩ := HI.out.1.fr
          have hlast := fr_last hfr HI.out.1.rng
          have hL60 := hfr.fr.le
          have hmL : mm ≤ L := by
            rcases Nat.lt_or_ge L mm with h | h
            · exact absurd (HI.out.2.2.2 (L + 1) (by omega) (by omega)) hlast.2
            · exact h
          have HLA := Aside0.mk hlast
          have HCU := Aside0.mk (cum_calls HI.out.1.own.tr)
          rw [hfr.fr.cum] at HCU
          unfold nth at HCU
          obtain ⟨w9, hw9⟩ : ∃ w9, w9 = wr := ⟨_, rfl⟩
          rw [← hw9] at HCU HI1 ⊢
          clear hfr hlast HI hw9
          go_wp2_with fail
          go_loopw [17] (fun i wr => ∃ j : Nat, j ≤ L ∧ i = .int .i64 (j : Nat) ∧ wr = w9) (fun i _ => L - (intOf i).toNat)
          case atStart => exact ⟨0, Nat.zero_le _, rfl, rfl⟩
          case round =>
            obtain ⟨j, hj, rfl, rfl⟩ := hrel
            have hrun := FI.look HI1.out.1.map HI1.out.1.cnt (n := j + 1) (by omega)
            obtain ⟨q, hq⟩ : ∃ q, q = ks.count (j + 1) := ⟨_, rfl⟩
            rw [← hq] at hrun
            rw [show ((j + 1 : Nat) : Int) = (j : Int) + 1 by omega] at hrun
            by_cases hjL : j < L
            · have hq1 : 0 < q := by rw [hq]; exact List.count_pos_iff.2 (HLA.out.1 (j + 1) (by omega) (by omega))
              have hq2 : (0 : Int) < (q : Int) := by omega
              clear hq
              go_wp2_with fail
              go_roundw
              case rel => exact ⟨j + 1, by omega, by go_num, trivial⟩
              case measure => simp [intOf]; omega
            · obtain rfl : j = L := by omega
              have hq1 : q = 0 := by rw [hq]; exact List.count_eq_zero.2 HLA.out.2
              subst hq1
              have hj32 : (j : Int) % 4294967296 = (j : Int) := by omega
              have hmj : (mm : Int) ≤ (j : Int) := by omega
              have hge : decide ((mm : Int) ≤ (j : Int)) = true := decide_eq_true hmj
              clear hq hjL
              go_wp2_with (first | (go_at_call 11; refine HCU.out.mono ?_; rintro e w10 ⟨rfl, rfl⟩))
              go_ret
              exact ⟨rfl, HI1.out.1.own.bel⟩
set_option maxRecDepth 100000 in
theorem gapsFresh_long (W : World) (a0 : Int) (A1 : Option Addr) (c1 : Nat) (l1 : List Int) (a2 : Int) (hl : 200 < l1.length) :
    Calls Try.prog 3 #[.int .u32 a0, .slice A1 l1.length c1, .int .i64 a2] W (Yes W) := by
  have HA := Aside0.mk (alive_calls W)
  have hn0 : (200 : Int) < (l1.length : Int) := by omega
  go_enter Try.func3, Try.ntmps3
  go_wp2_with (first | (go_at_call 8; refine HA.out.mono ?_; rintro e w2 ⟨rfl, hb⟩; have HB2 := Aside0.mk hb; clear hb))
  go_ret
  exact ⟨rfl, HB2.out⟩
theorem gapsFresh_walk (W : World) (a0 : Int) (A1 : Option Addr) (c1 : Nat) (l1 : (List Int)) (a2 : Int) (w0 : (Lit.int .u32 a0).wf = true) (hc1 : l1.length ≤ c1) (hr1 : Kd.C (Kd.int .i64) W A1 l1.length l1) (w1 : (∀ zl1 ∈ l1, (Lit.int .i64 zl1).wf = true)) (w2 : (Lit.int .i64 a2).wf = true) :
    Calls Try.prog 3 #[.int .u32 a0, .slice A1 l1.length c1, .int .i64 a2] W fun e w' => e = .returned (.bool true) ∧ Below W.heap.size W w' := by
  by_cases h : 200 < l1.length
  · exact gapsFresh_long W a0 A1 c1 l1 a2 h
  · exact gapsFresh_main W a0 A1 c1 l1 a2 (u32_of_wf w0) hr1 (by omega)
end Go.Proofs.Ytkginabioolmiaa.Gp
