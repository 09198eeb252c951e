/- PathsChangeSaid: part 3 of its proof: printed functions and their contracts, plain laws. -/
import Derived.Test.YtblooffiggciiaaZPathsChangeSaid2
import Derived.RangeFuncNested
import Derived.RangeFuncBound
import Derived.RangeFuncCalls
import Derived.RangeFuncLeaves
import Derived.RangeFuncBox
import Derived.Shelf.Abstract
import Derived.OwnWalkIn
import Derived.TacticsInMore
import Derived.LoopNIn
import Derived.LoopIn
import Derived.Sort.QuietIn
set_option linter.unusedVariables false
set_option linter.unusedSimpArgs false
/- PsI -/
namespace Go.Proofs.Ytblooffiggciiaa.Ps
open Go.RowKit Go.Proofs.Ytblooffiggciiaa.PPs Go.Proofs.YtblooffiggciiaaW.PrintWords Go.Proofs.YtblooffiggciiaaW.PrintLast Go.Proofs.YtblooffiggciiaaW.PrintMore Go.Proofs.Ytblooffiggciiaa.Sh
attribute [local go_sem] Go.Proofs.Ytblooffiggciiaa.Aid.isSome_setCell
theorem far2 {W : World} {g g' t : Nat} {cs : Array Value} {v q : Value} (h : W.heap[g']? = some (.cells cs t (0, 0))) (hn : g' ≠ g) : ((W.setCell ⟨g, 0, none⟩ v).setCell ⟨g, 1, none⟩ q).heap[g']? = some (.cells cs t (0, 0)) :=
  blk_far (blk_far h hn v) hn q
set_option maxHeartbeats 2000000 in
set_option maxRecDepth 100000 in
theorem prime_err {w : World} {A : Option Addr} {c : Nat} {l : List S34} (hC : Kd.C k34 w A l.length l) (p a er : Int) (hf : fnd l p a = (0, some er)) :
    Calls Try.prog 60 #[.agg #[.slice A l.length c, .int .i64 p], .int .i64 a] w (SetR w [] 0 (some er)) := by
  have hB := b1 (b1 (Below.refl w.heap.size w) (.cells #[.slice A l.length c, .int .i64 p] 70)) (.cells #[.slice none 0 0, .int .i64 0] 70)
  have h1 := blk_new (w.alloc (.cells #[.slice A l.length c, .int .i64 p] 70)) (.cells #[.slice none 0 0, .int .i64 0] 70)
  rw [sz1] at h1
  have hS := q3 (blk_new w (.cells #[.slice A l.length c, .int .i64 p] 70)) (.cells #[.slice none 0 0, .int .i64 0] 70)
  have HC := Aside0.mk (Kd.C_alloc (Kd.C_alloc hC (.cells #[.slice A l.length c, .int .i64 p] 70)) (.cells #[.slice none 0 0, .int .i64 0] 70))
  have HF := Aside0.mk (find_calls (c := c) HC.out p a)
  rw [hf] at HF
  have hz := ck2 hS
  have HB := Aside0.mk hB
  have H1 := Aside0.mk h1
  have HS := Aside0.mk hS
  clear hB h1 hS hC hf
  go_enter Try.func60, Try.ntmps60
  go_wp2_with fail
  refine HF.out.mono ?_
  rintro e w5 ⟨rfl, hb⟩
  have BR5 := Aside0.mk (blk_below H1.out hb)
  have HB5 := Aside0.mk (below_step HB.out hb)
  clear hb hz
  have hz := cc2 BR5.out
  have he : errW (some er) = Value.iface 42 (.int .i64 er) := rfl
  simp only [he]
  clear he
  go_wp2_with fail
  have hs : w.heap.size ≤ w.heap.size + 1 := by omega
  refine bodyPost_ret (results_ct rfl _ _ (w.heap.size + 1) 70 #[.slice none 0 0, .int .i64 0] (0, 0) _ rfl (put2 BR5.out) Try.underlying70 rfl (by kernel_rfl)) rfl ?_
  exact ⟨_, rfl, Kd.R_nil _ _ _ _ _, bel2 HB5.out hs⟩
set_option maxHeartbeats 2000000 in
set_option maxRecDepth 100000 in
theorem prime_ok {w : World} {A : Option Addr} {c : Nat} {l : List S34} (hC : Kd.C k34 w A l.length l) (p a : Int) (hcc : l.length ≤ c) (hl : l.length ≤ 1048576) (i : Nat) (hf : fnd l p a = ((i : Int), none)) :
    Calls Try.prog 60 #[.agg #[.slice A l.length c, .int .i64 p], .int .i64 a] w (SetR w l i none) := by
  have hB := b1 (b1 (Below.refl w.heap.size w) (.cells #[.slice A l.length c, .int .i64 p] 70)) (.cells #[.slice none 0 0, .int .i64 0] 70)
  have h1 := blk_new (w.alloc (.cells #[.slice A l.length c, .int .i64 p] 70)) (.cells #[.slice none 0 0, .int .i64 0] 70)
  rw [sz1] at h1
  have hS := q3 (blk_new w (.cells #[.slice A l.length c, .int .i64 p] 70)) (.cells #[.slice none 0 0, .int .i64 0] 70)
  have HC := Aside0.mk (Kd.C_alloc (Kd.C_alloc hC (.cells #[.slice A l.length c, .int .i64 p] 70)) (.cells #[.slice none 0 0, .int .i64 0] 70))
  have HF := Aside0.mk (find_calls (c := c) HC.out p a)
  rw [hf] at HF
  have hz := ck2 hS
  have HB := Aside0.mk hB
  have H1 := Aside0.mk h1
  have HS := Aside0.mk hS
  clear hB h1 hS hC hf
  go_enter Try.func60, Try.ntmps60
  go_wp2_with fail
  refine HF.out.mono ?_
  rintro e w5 ⟨rfl, hb⟩
  have BR5 := Aside0.mk (blk_below H1.out hb)
  have BS5 := Aside0.mk (blk_below HS.out hb)
  have HB5 := Aside0.mk (below_step HB.out hb)
  have HCl := Aside0.mk (clone_calls _ A c l hcc (Kd.C_below HC.out hb) hl)
  clear hb hz
  have hz := cc2 BS5.out
  have he : errW none = Value.nilIface := rfl
  simp only [he]
  clear he
  go_wp2_with fail
  refine HCl.out.mono ?_
  rintro e w6 ⟨A2, c2, rfl, hR, hb⟩
  have BR6 := Aside0.mk (blk_below BR5.out hb)
  have BS6 := Aside0.mk (blk_below BS5.out hb)
  have HB6 := Aside0.mk (below_step HB5.out hb)
  have HR := Aside0.mk (Kd.R_lower hR (below_size HB5.out))
  clear hb hz hR
  have hz := cc2 BS6.out
  have hy := cc2 BR6.out
  go_wp2_with fail
  have hs : w.heap.size ≤ w.heap.size + 1 := by omega
  have BR7 := Aside0.mk (far2 (v := .slice A2 l.length c2) (q := .int .i64 i) BR6.out (show w.heap.size + 1 ≠ w.heap.size by omega))
  refine bodyPost_ret (results_ct rfl _ _ (w.heap.size + 1) 70 #[.slice A2 l.length c2, .int .i64 i] (0, 0) _ rfl (put2 BR7.out) Try.underlying70 rfl (by kernel_rfl)) rfl ?_
  exact ⟨_, rfl, rr2 (rr2 HR.out BS6.out) BR7.out, bel2 (bel2 HB6.out (Nat.le_refl _)) hs⟩
def primeL (l : List S34) (p a : Int) : List S34 × Int × Option Int :=
  match fnd l p a with
  | (q, none) => (l, q, none)
  | (_, some e) => ([], 0, some e)
theorem prime_calls {w : World} {A : Option Addr} {c : Nat} {l : List S34} (hC : Kd.C k34 w A l.length l) (hcc : l.length ≤ c) (hl : l.length ≤ 1048576) (p a : Int) :
    Calls Try.prog 60 #[.agg #[.slice A l.length c, .int .i64 p], .int .i64 a] w (SetR w (primeL l p a).1 (primeL l p a).2.1 (primeL l p a).2.2) := by
  unfold primeL
  rcases fnd_at l p a with ⟨e, he⟩ | ⟨i, hi, he, _⟩
  · rw [he]; exact prime_err hC p a e he
  · rw [he]; exact prime_ok hC p a hcc hl i he
end Go.Proofs.Ytblooffiggciiaa.Ps
/- PsJ -/
namespace Go.Proofs.Ytblooffiggciiaa.Ps
open Go.RowKit Go.Proofs.Ytblooffiggciiaa.PPs Go.Proofs.YtblooffiggciiaaW.PrintWords Go.Proofs.YtblooffiggciiaaW.PrintLast Go.Proofs.YtblooffiggciiaaW.PrintMore Go.Proofs.Ytblooffiggciiaa.Sh
attribute [local go_sem] Go.Proofs.Ytblooffiggciiaa.Aid.isSome_setCell
theorem put11 {w : World} {g : Nat} {t : TypeId} {x0 x1 x2 x3 x4 x5 x6 x7 x8 x9 x10 y0 y1 y2 y3 y4 y5 y6 y7 y8 y9 y10 : Value} (h : w.heap[g]? = some (.cells #[x0, x1, x2, x3, x4, x5, x6, x7, x8, x9, x10] t (0, 0))) :
    (((((((((((w.setCell ⟨g, 0, none⟩ y0).setCell ⟨g, 1, none⟩ y1).setCell ⟨g, 2, none⟩ y2).setCell ⟨g, 3, none⟩ y3).setCell ⟨g, 4, none⟩ y4).setCell ⟨g, 5, none⟩ y5).setCell ⟨g, 6, none⟩ y6).setCell ⟨g, 7, none⟩ y7).setCell ⟨g, 8, none⟩ y8).setCell ⟨g, 9, none⟩ y9).setCell ⟨g, 10, none⟩ y10).heap[g]? = some (.cells #[y0, y1, y2, y3, y4, y5, y6, y7, y8, y9, y10] t (0, 0)) := by
  have h0 := blk_put (cs' := #[y0, x1, x2, x3, x4, x5, x6, x7, x8, x9, x10]) h 0 y0 rfl
  have h1 := blk_put (cs' := #[y0, y1, x2, x3, x4, x5, x6, x7, x8, x9, x10]) h0 1 y1 rfl
  have h2 := blk_put (cs' := #[y0, y1, y2, x3, x4, x5, x6, x7, x8, x9, x10]) h1 2 y2 rfl
  have h3 := blk_put (cs' := #[y0, y1, y2, y3, x4, x5, x6, x7, x8, x9, x10]) h2 3 y3 rfl
  have h4 := blk_put (cs' := #[y0, y1, y2, y3, y4, x5, x6, x7, x8, x9, x10]) h3 4 y4 rfl
  have h5 := blk_put (cs' := #[y0, y1, y2, y3, y4, y5, x6, x7, x8, x9, x10]) h4 5 y5 rfl
  have h6 := blk_put (cs' := #[y0, y1, y2, y3, y4, y5, y6, x7, x8, x9, x10]) h5 6 y6 rfl
  have h7 := blk_put (cs' := #[y0, y1, y2, y3, y4, y5, y6, y7, x8, x9, x10]) h6 7 y7 rfl
  have h8 := blk_put (cs' := #[y0, y1, y2, y3, y4, y5, y6, y7, y8, x9, x10]) h7 8 y8 rfl
  have h9 := blk_put (cs' := #[y0, y1, y2, y3, y4, y5, y6, y7, y8, y9, x10]) h8 9 y9 rfl
  have h10 := blk_put (cs' := #[y0, y1, y2, y3, y4, y5, y6, y7, y8, y9, y10]) h9 10 y10 rfl
  exact h10
theorem bel11 {W w : World} {g : Nat} {y0 y1 y2 y3 y4 y5 y6 y7 y8 y9 y10 : Value} (h : Below W.heap.size W w) (hg : W.heap.size ≤ g) : Below W.heap.size W (((((((((((w.setCell ⟨g, 0, none⟩ y0).setCell ⟨g, 1, none⟩ y1).setCell ⟨g, 2, none⟩ y2).setCell ⟨g, 3, none⟩ y3).setCell ⟨g, 4, none⟩ y4).setCell ⟨g, 5, none⟩ y5).setCell ⟨g, 6, none⟩ y6).setCell ⟨g, 7, none⟩ y7).setCell ⟨g, 8, none⟩ y8).setCell ⟨g, 9, none⟩ y9).setCell ⟨g, 10, none⟩ y10) :=
  below_set (below_set (below_set (below_set (below_set (below_set (below_set (below_set (below_set (below_set (below_set h hg) hg) hg) hg) hg) hg) hg) hg) hg) hg) hg
end Go.Proofs.Ytblooffiggciiaa.Ps
/- PsV -/
namespace Go.Proofs.Ytblooffiggciiaa.Ps
open Go.RowKit Go.Shelf Go.Proofs.Ytblooffiggciiaa.PPs Go.Proofs.YtblooffiggciiaaW.PrintWords Go.Proofs.YtblooffiggciiaaW.PrintLast Go.Proofs.YtblooffiggciiaaW.PrintMore Go.Proofs.Ytblooffiggciiaa.Sh
theorem wide_fn (f : FuncId) : Fence.wide.fn f = True := rfl
attribute [local go_sem] Oper.semAt_some wide_fn
def seqF (xs : List S34) (i : Nat) : List S34 := (List.range' 1 (xs.length - 1)).map fun k => xs.getD ((i + k) % xs.length) z34
theorem seqF_len (xs : List S34) (i : Nat) : (seqF xs i).length = xs.length - 1 := by simp [seqF]
theorem seqF_take (xs : List S34) (i k : Nat) (h : k + 1 < xs.length) : (seqF xs i).take (k + 1) = (seqF xs i).take k ++ [xs.getD ((i + (k + 1)) % xs.length) z34] := by
  have hl : k < (seqF xs i).length := by rw [seqF_len]; omega
  rw [List.take_succ_eq_append_getElem hl]
  congr 2
  simp [seqF, Nat.add_comm 1 k]
set_option maxRecDepth 100000 in
set_option maxHeartbeats 4000000 in
theorem from_in (n : Nat) (hn : 1 ≤ n) (l Bs Bi : Nat) (w0 : World) (A : Option Addr) (c : Nat) (xs : List S34) (p : Int) (i : Nat) (hi : i < xs.length) (hl : xs.length ≤ 1000) (J Jx : List S34 → World → Prop)
    (hY : ∀ pre x W, J pre W → pre.length < xs.length - 1 → YieldAt Fence.wide (n - 1) Try.prog l #[.agg (cs34 x).toArray] W fun e W' =>
      (e = .returned (.bool true) ∧ J (pre ++ [x]) W' ∧ Below w0.heap.size W W') ∨ (e = .returned (.bool false) ∧ Jx (pre ++ [x]) W'))
    (W : World) (hW : Below w0.heap.size w0 W) (hBs : w0.heap[Bs]? = some (.cells #[.slice A xs.length c, .int .i64 p] 70 (0, 0))) (hBi : w0.heap[Bi]? = some (.cells #[.int .i64 i] 3 (0, 0))) (hC : Kd.C k34 w0 A xs.length xs) (h0 : J [] W) (hJd : ∀ pre W m, J pre W → J pre (W.drewN m)) :
    CallsIn Fence.wide n Try.prog 104 #[.func (.yield l) #[] #[], .pointer (some ⟨Bs, 0, none⟩), .pointer (some ⟨Bi, 0, none⟩)] W fun e W' => (∃ v, e = .returned v) ∧
      ((∃ ys, ys = seqF xs i ∧ J ys W') ∨ (∃ pre, (∃ k, k ≤ (seqF xs i).length ∧ pre = (seqF xs i).take k) ∧ Jx pre W')) := by
  have HY := Aside0.mk hY
  have HJD := Aside0.mk hJd
  have HC := Aside0.mk hC
  have H0 := Aside0.mk h0
  have HBS := Aside0.mk hBs
  have HBI := Aside0.mk hBi
  have HW := Aside0.mk hW
  clear hY hJd hBs hBi hC h0 hW
  refine callsIn_of_wp Try.func104 rfl (by trivial) ?_ rfl
  simp only [Try.ntmps104, List.size_toArray, List.length_cons, List.length_nil, Nat.reduceAdd, Nat.reduceSub, Array.replicate_succ, Array.replicate_zero, List.push_toArray, List.append_toArray, List.nil_append, List.cons_append]
  gi_wp2
  gi_loopw [4] (fun v wr => ∃ (k : Nat), k + 1 ≤ xs.length ∧ v = .int .i64 ((k + 1 : Nat) : Int) ∧ Aside0 (J ((seqF xs i).take k) wr) ∧ Aside0 (Below w0.heap.size w0 wr))
    (fun v _ => xs.length - (intOf v).toNat)
  case atStart => exact ⟨0, by omega, rfl, H0, HW⟩
  case round =>
    obtain ⟨k, hk, rfl, HJ, HN⟩ := hrel
    have hb1 := ck2 (blk_below HBS.out HN.out)
    have hb2 := ck1 (blk_below HBI.out HN.out)
    by_cases hlt : k + 1 < xs.length
    · have hlt2 : ((k + 1 : Nat) : Int) < (xs.length : Int) := by omega
      have hd : decide (((k + 1 : Nat) : Int) < (xs.length : Int)) = true := decide_eq_true hlt2
      obtain ⟨r, hr⟩ : ∃ r, r = (i + (k + 1)) % xs.length := ⟨_, rfl⟩
      have hrl : r < xs.length := by rw [hr]; exact Nat.mod_lt _ (by omega)
      have hrw : Int.tmod ((i : Int) + ((k + 1 : Nat) : Int)) (xs.length : Int) = (r : Int) := by
        rw [hr, Int.tmod_eq_emod_of_nonneg (by omega)]; norm_cast
      obtain ⟨ad, rfl, h0, h1, h2, h3, h4, h5, h6, h7, h8, h9, h10⟩ := at_T34 (Kd.C_below HC.out HN.out) (r : Int) (by omega) (by omega)
      obtain ⟨y, hy⟩ : ∃ y, y = rd_T34 xs (r : Int) := ⟨_, rfl⟩
      rw [← hy] at h0 h1 h2 h3 h4 h5 h6 h7 h8 h9 h10
      have HTK := Aside0.mk (show (seqF xs i).take (k + 1) = (seqF xs i).take k ++ [y] by
        rw [seqF_take xs i k hlt, ← hr, hy]; unfold rd_T34; rw [Int.toNat_natCast])
      rw [Int.toNat_natCast] at h0 h1 h2 h3 h4 h5 h6 h7 h8 h9 h10
      clear hy hr
      have HYK := Aside0.mk (HY.out ((seqF xs i).take k) y (wr.drewN 1) (HJD.out _ _ _ HJ.out) (by rw [List.length_take, seqF_len]; omega))
      obtain ⟨fn, tmps, assign, body, hy, hR⟩ := HYK.out
      have hR2 := Aside0.mk (hR.mono (fun e W' h => (show ∃ b : Bool, e = .returned (.bool b) ∧ Aside0 ((b = true ∧ J ((seqF xs i).take k ++ [y]) W' ∧ Below w0.heap.size (wr.drewN 1) W') ∨ (b = false ∧ Jx ((seqF xs i).take k ++ [y]) W')) from by
        rcases h with ⟨rfl, h1, h2⟩ | ⟨rfl, h⟩
        · exact ⟨true, rfl, ⟨.inl ⟨rfl, h1, h2⟩⟩⟩
        · exact ⟨false, rfl, ⟨.inr ⟨rfl, h⟩⟩⟩)))
      have hy2 : Sem.run Try.prog (Instr.yield l #[.agg #[.int .i64 y.f0.f0, .int .i64 y.f0.f1, .int .i64 y.f0.f2, .bool y.f0.f3, .int .i64 y.f1.f0, .int .i64 y.f1.f1, .int .i64 y.f1.f2, .int .i64 y.f2, .int .i64 y.f3, .int .u32 y.f4, .int .i64 y.f5]]) wr.drew = .ok (.round l fn tmps assign body) wr.drew := hy
      clear hR HYK hy
      obtain ⟨K, hK⟩ : ∃ K : Int, K = ((k + 1 : Nat) : Int) := ⟨_, rfl⟩
      rw [← hK] at hlt2 hrw hd
      rw [← hK]
      have HK := Aside0.mk hK
      obtain ⟨S, hS⟩ : ∃ S : Int, S = (i : Int) + K := ⟨_, rfl⟩
      have hsum : IntKind.i64.wrap ((i : Int) + K) = S := by rw [IntKind.wrap_i64, hS]; omega
      have hsum2 : wrap64 ((i : Int) + K) = S := by unfold wrap64; omega
      rw [← hS] at hrw
      have hm1 : IntKind.i64.wrap (Int.tmod S (xs.length : Int)) = (r : Int) := by rw [hrw, IntKind.wrap_i64]; omega
      have hm2 : wrap64 (Int.tmod S (xs.length : Int)) = (r : Int) := by rw [hrw]; unfold wrap64; omega
      have hr0 : (0 : Int) ≤ (r : Int) := by omega
      have hr1 : (r : Int) < (xs.length : Int) := by omega
      have HKK := Aside0.mk (show wrap64 (K + 1) = ((k + 1 + 1 : Nat) : Int) by rw [hK]; unfold wrap64; omega)
      clear hK hS
      have hne0 : ¬ ((xs.length : Int) = 0) := by omega
      have hne1 : ((xs.length : Int) == 0) = false := beq_eq_false_iff_ne.mpr hne0
      have hne2 : ¬ xs = [] := fun h => by rw [h] at hlt; exact absurd hlt (by simp)
      have hne3 : ¬ (xs.length = 0) := by omega
      gi_wp2
      gi_region_with (first | (refine hR2.out.mono ?_; rintro e W3 ⟨b, rfl, HB3⟩))
      all_goals (rcases HB3.out with ⟨rfl, hJ3, hk3⟩ | ⟨rfl, hJx3⟩)
      all_goals gi_wp2
      all_goals first
        | (refine bodyPost_ret (results_none rfl _ _ _) rfl ?_; exact ⟨⟨_, rfl⟩, .inr ⟨(seqF xs i).take (k + 1), ⟨k + 1, by rw [seqF_len]; omega, rfl⟩, by rw [HTK.out]; exact hJx3⟩⟩)
        | exact ⟨⟨k + 1, by omega, (by rw [HKK.out]), ⟨by rw [HTK.out]; exact hJ3⟩, ⟨(HN.out.trans (pw_below_drewN (Below.refl _ _) 1)).trans hk3⟩⟩, by rw [HKK.out, HK.out]; simp [intOf]; omega⟩
        | trace_state
    · have hke : k + 1 = xs.length := by omega
      have hJe : J (seqF xs i) wr := by
        have h := HJ.out
        rw [List.take_of_length_le (by rw [seqF_len]; omega)] at h
        exact h
      have HJe := Aside0.mk hJe
      have HKE := Aside0.mk hke
      obtain ⟨K, hK⟩ : ∃ K : Int, K = ((k + 1 : Nat) : Int) := ⟨_, rfl⟩
      rw [← hK]
      have hlt2 : ¬ (K < (xs.length : Int)) := by omega
      clear hJe hke hK
      gi_wp2
      go_end0
      exact ⟨⟨_, rfl⟩, .inl HJe.out⟩
end Go.Proofs.Ytblooffiggciiaa.Ps
/- PsW -/
namespace Go.Proofs.Ytblooffiggciiaa.Ps
open Go.RowKit Go.Shelf Go.Proofs.Ytblooffiggciiaa.PPs Go.Proofs.YtblooffiggciiaaW.PrintWords Go.Proofs.YtblooffiggciiaaW.PrintLast Go.Proofs.YtblooffiggciiaaW.PrintMore Go.Proofs.Ytblooffiggciiaa.Sh
attribute [local go_sem] Oper.semAt_some wide_fn
theorem from_calls (w : World) (A : Option Addr) (m c : Nat) (p i : Int) : Calls Try.prog 99 #[.agg #[.slice A m c, .int .i64 p], .int .i64 i] w fun e w' => e = .returned (.func (.func 104) #[] #[.pointer (some ⟨w.heap.size, 0, none⟩), .pointer (some ⟨w.heap.size + 1, 0, none⟩)]) ∧ w' = (w.alloc (.cells #[.slice A m c, .int .i64 p] 70)).alloc (.cells #[.int .i64 i] 3) := by
  go_enter Try.func99, Try.ntmps99
  go_wp2
  go_ret
  exact ⟨rfl, rfl⟩
theorem gb_drewN (W : World) (m : Nat) : W.grownBy (W.drewN m) none := ⟨rfl, rfl, rfl, Nat.le_refl _, fun _ _ _ => rfl⟩
theorem from_stops (n : Nat) (hn : 1 ≤ n) {Bs Bi : Nat} {w0 : World} {A : Option Addr} {c : Nat} {xs : List S34} {p : Int} {i : Nat} (hi : i < xs.length) (hl : xs.length ≤ 1000)
    (hBs : w0.heap[Bs]? = some (.cells #[.slice A xs.length c, .int .i64 p] 70 (0, 0))) (hBi : w0.heap[Bi]? = some (.cells #[.int .i64 i] 3 (0, 0))) (hC : Kd.C k34 w0 A xs.length xs) :
    SeqStopsK Fence.wide n Try.prog 104 #[.pointer (some ⟨Bs, 0, none⟩), .pointer (some ⟨Bi, 0, none⟩)] (fun x : S34 => #[.agg (cs34 x).toArray]) (fun W W' => Below w0.heap.size W W') (fun ys => ys = seqF xs i) (fun pre => ∃ k, k ≤ (seqF xs i).length ∧ pre = (seqF xs i).take k) (xs.length - 1) w0 :=
  fun l J Jx W hW hJ _ hY h0 => from_in n hn l Bs Bi w0 A c xs p i hi hl J Jx hY W hW hBs hBi hC h0
    (fun pre W m h => hJ pre W _ none h (gb_drewN W m) (fun r e => by cases e))
def otherL (xs : List S34) (i : Nat) : S34 := ((seqF xs i).find? fun x => decide (Ac x)).getD (xs.getD i z34)
theorem gb_blk {a b : World} {r : Option Nat} (h : a.grownBy b r) {k : Nat} {o : Obj} (hk : a.heap[k]? = some o) (hn : some k ≠ r) : b.heap[k]? = some o := (h.block k (blk_lt hk) hn).trans hk
end Go.Proofs.Ytblooffiggciiaa.Ps
/- PsX -/
namespace Go.Proofs.Ytblooffiggciiaa.Ps
open Go.RowKit Go.Shelf Go.Proofs.Ytblooffiggciiaa.PPs Go.Proofs.YtblooffiggciiaaW.PrintWords Go.Proofs.YtblooffiggciiaaW.PrintLast Go.Proofs.YtblooffiggciiaaW.PrintMore Go.Proofs.Ytblooffiggciiaa.Sh
attribute [local go_sem] Oper.semAt_some wide_fn
theorem far11 {W : World} {g g' : Nat} {o : Obj} {y0 y1 y2 y3 y4 y5 y6 y7 y8 y9 y10 : Value} (h : W.heap[g']? = some o) (hn : g' ≠ g) : (((((((((((W.setCell ⟨g, 0, none⟩ y0).setCell ⟨g, 1, none⟩ y1).setCell ⟨g, 2, none⟩ y2).setCell ⟨g, 3, none⟩ y3).setCell ⟨g, 4, none⟩ y4).setCell ⟨g, 5, none⟩ y5).setCell ⟨g, 6, none⟩ y6).setCell ⟨g, 7, none⟩ y7).setCell ⟨g, 8, none⟩ y8).setCell ⟨g, 9, none⟩ y9).setCell ⟨g, 10, none⟩ y10).heap[g']? = some o := by
  iterate 11 refine (Below.heap_setCell _ _ _ g' hn).trans ?_
  exact h
theorem kf_below {W W' : World} (B : Nat) (h : Below W.heap.size W W') : KeepsFrom B W W' := ⟨h.size, fun k o _ hk _ => (h.block k (blk_lt hk)).trans hk⟩
theorem kf_set {B : Nat} {W W' : World} (h : KeepsFrom B W W') {q : Addr} (hq : q.block < B) (v : Value) : KeepsFrom B W (W'.setCell q v) :=
  ⟨by have := h.size; simpa [World.setCell] using this, fun k o hk h1 h2 => (Below.heap_setCell W' q v k (by omega)).trans (h.same k o hk h1 h2)⟩
theorem kf11 {B : Nat} {W w : World} {g : Nat} {y0 y1 y2 y3 y4 y5 y6 y7 y8 y9 y10 : Value} (h : KeepsFrom B W w) (hg : g < B) : KeepsFrom B W (((((((((((w.setCell ⟨g, 0, none⟩ y0).setCell ⟨g, 1, none⟩ y1).setCell ⟨g, 2, none⟩ y2).setCell ⟨g, 3, none⟩ y3).setCell ⟨g, 4, none⟩ y4).setCell ⟨g, 5, none⟩ y5).setCell ⟨g, 6, none⟩ y6).setCell ⟨g, 7, none⟩ y7).setCell ⟨g, 8, none⟩ y8).setCell ⟨g, 9, none⟩ y9).setCell ⟨g, 10, none⟩ y10) :=
  kf_set (kf_set (kf_set (kf_set (kf_set (kf_set (kf_set (kf_set (kf_set (kf_set (kf_set h hg _) hg _) hg _) hg _) hg _) hg _) hg _) hg _) hg _) hg _) hg _
theorem bg11 {B : Nat} {W w : World} {g : Nat} {y0 y1 y2 y3 y4 y5 y6 y7 y8 y9 y10 : Value} (h : Below B W w) (hg : B ≤ g) : Below B W (((((((((((w.setCell ⟨g, 0, none⟩ y0).setCell ⟨g, 1, none⟩ y1).setCell ⟨g, 2, none⟩ y2).setCell ⟨g, 3, none⟩ y3).setCell ⟨g, 4, none⟩ y4).setCell ⟨g, 5, none⟩ y5).setCell ⟨g, 6, none⟩ y6).setCell ⟨g, 7, none⟩ y7).setCell ⟨g, 8, none⟩ y8).setCell ⟨g, 9, none⟩ y9).setCell ⟨g, 10, none⟩ y10) :=
  Below.setCell (Below.setCell (Below.setCell (Below.setCell (Below.setCell (Below.setCell (Below.setCell (Below.setCell (Below.setCell (Below.setCell (Below.setCell h hg _) hg _) hg _) hg _) hg _) hg _) hg _) hg _) hg _) hg _) hg _
set_option maxRecDepth 100000 in
set_option maxHeartbeats 4000000 in
theorem other_calls {w : World} {A : Option Addr} {c : Nat} {xs : List S34} (hC : Kd.C k34 w A xs.length xs) (p : Int) (i : Nat) (hi : i < xs.length) (hl : xs.length ≤ 1000) :
    Calls Try.prog 87 #[.agg #[.slice A xs.length c, .int .i64 p], .int .i64 i] w fun e w' => e = .returned (.agg (cs34 (otherL xs i)).toArray) ∧ Below w.heap.size w w' := by
  have hB := b1 (b1 (b1 (b1 (Below.refl w.heap.size w) (.cells #[.slice A xs.length c, .int .i64 p] 70)) (.cells #[.int .i64 0, .int .i64 0, .int .i64 0, .bool false, .int .i64 0, .int .i64 0, .int .i64 0, .int .i64 0, .int .i64 0, .int .u32 0, .int .i64 0] 34)) (.cells #[.slice A xs.length c, .int .i64 p] 70)) (.cells #[.int .i64 i] 3)
  have h3 := q3 (q3 (q3 (blk_new w (.cells #[.slice A xs.length c, .int .i64 p] 70)) (.cells #[.int .i64 0, .int .i64 0, .int .i64 0, .bool false, .int .i64 0, .int .i64 0, .int .i64 0, .int .i64 0, .int .i64 0, .int .u32 0, .int .i64 0] 34)) (.cells #[.slice A xs.length c, .int .i64 p] 70)) (.cells #[.int .i64 i] 3)
  have h4 := q3 (q3 (blk_new (w.alloc (.cells #[.slice A xs.length c, .int .i64 p] 70)) (.cells #[.int .i64 0, .int .i64 0, .int .i64 0, .bool false, .int .i64 0, .int .i64 0, .int .i64 0, .int .i64 0, .int .i64 0, .int .u32 0, .int .i64 0] 34)) (.cells #[.slice A xs.length c, .int .i64 p] 70)) (.cells #[.int .i64 i] 3)
  have h5 := q3 (blk_new ((w.alloc (.cells #[.slice A xs.length c, .int .i64 p] 70)).alloc (.cells #[.int .i64 0, .int .i64 0, .int .i64 0, .bool false, .int .i64 0, .int .i64 0, .int .i64 0, .int .i64 0, .int .i64 0, .int .u32 0, .int .i64 0] 34)) (.cells #[.slice A xs.length c, .int .i64 p] 70)) (.cells #[.int .i64 i] 3)
  have h6 := blk_new (((w.alloc (.cells #[.slice A xs.length c, .int .i64 p] 70)).alloc (.cells #[.int .i64 0, .int .i64 0, .int .i64 0, .bool false, .int .i64 0, .int .i64 0, .int .i64 0, .int .i64 0, .int .i64 0, .int .u32 0, .int .i64 0] 34)).alloc (.cells #[.slice A xs.length c, .int .i64 p] 70)) (.cells #[.int .i64 i] 3)
  have hz := ck2 (q3 (blk_new w (.cells #[.slice A xs.length c, .int .i64 p] 70)) (.cells #[.int .i64 0, .int .i64 0, .int .i64 0, .bool false, .int .i64 0, .int .i64 0, .int .i64 0, .int .i64 0, .int .i64 0, .int .u32 0, .int .i64 0] 34))
  have hsz : ((((w.alloc (.cells #[.slice A xs.length c, .int .i64 p] 70)).alloc (.cells #[.int .i64 0, .int .i64 0, .int .i64 0, .bool false, .int .i64 0, .int .i64 0, .int .i64 0, .int .i64 0, .int .i64 0, .int .u32 0, .int .i64 0] 34)).alloc (.cells #[.slice A xs.length c, .int .i64 p] 70)).alloc (.cells #[.int .i64 i] 3)).heap.size = w.heap.size + 4 := by simp only [sz1]
  simp only [sz1] at h4 h5 h6
  have HC := Aside0.mk (Kd.C_alloc (Kd.C_alloc (Kd.C_alloc (Kd.C_alloc hC (.cells #[.slice A xs.length c, .int .i64 p] 70)) (.cells #[.int .i64 0, .int .i64 0, .int .i64 0, .bool false, .int .i64 0, .int .i64 0, .int .i64 0, .int .i64 0, .int .i64 0, .int .u32 0, .int .i64 0] 34)) (.cells #[.slice A xs.length c, .int .i64 p] 70)) (.cells #[.int .i64 i] 3))
  have HX := Aside0.mk (And.intro hB (And.intro h3 (And.intro h4 (And.intro h5 (And.intro h6 hsz)))))
  clear hB h3 h4 h5 h6 hsz hC
  refine (callsIn_wide (n := 10)).1 ?_
  refine callsIn_of_wp_marks Try.func87 rfl (by trivial) ?_ rfl
  refine wpIn_wide.2 ?_
  simp only [Try.ntmps87, List.size_toArray, List.length_cons, List.length_nil, Nat.reduceAdd, Nat.reduceSub, Array.replicate_succ, Array.replicate_zero, List.push_toArray, List.append_toArray, List.nil_append, List.cons_append]
  go_wp2_with (first | (go_at_call 99; refine (from_calls _ _ _ _ _ _).mono ?_; rintro e w' ⟨rfl, rfl⟩))
  obtain ⟨hB, h3, h4, h5, h6, hsz⟩ := HX.out
  have HCo := HC.out
  obtain ⟨W1, hW⟩ : ∃ W1, W1 = ((((w.alloc (.cells #[.slice A xs.length c, .int .i64 p] 70)).alloc (.cells #[.int .i64 0, .int .i64 0, .int .i64 0, .bool false, .int .i64 0, .int .i64 0, .int .i64 0, .int .i64 0, .int .i64 0, .int .u32 0, .int .i64 0] 34)).alloc (.cells #[.slice A xs.length c, .int .i64 p] 70)).alloc (.cells #[.int .i64 i] 3)) := ⟨_, rfl⟩
  rw [← hW] at hB h3 h4 h5 h6 hsz HCo ⊢
  clear hz HX HC hW
  obtain ⟨g, hg⟩ : ∃ g, g = w.heap.size := ⟨_, rfl⟩
  have HG := Aside0.mk hg
  rw [← hg] at hB h3 h4 h5 h6 hsz ⊢
  clear hg
  refine (wpIn_wide (n := 10)).1 ?_
  refine wpIn_rangeFunc_ownH (n := 10) rfl (by decide) (gf := 104) (lb := #[.pointer (some ⟨g + 1 + 1, 0, none⟩), .pointer (some ⟨g + 1 + 1 + 1, 0, none⟩)]) rfl (by trivial) (enters_of Try.func104 (by kernel_rfl) rfl)
    (from_stops 9 (by decide) hi hl h5 h6 HCo)
    (fun h h' => h.trans h') (fun W l o o' hle ho hc hw => belowK_b (w := W1) (Nat.le_refl _) W l o o' hle ho hc hw) (Below.refl _ _) (fun _ => rfl)
    (fun pre W => (((∀ x ∈ pre, ¬ Ac x) ∧ W.heap[g]? = some (.cells #[.slice A xs.length c, .int .i64 p] 70 (0, 0)) ∧ W.heap[g + 1]? = some (.cells #[.int .i64 0, .int .i64 0, .int .i64 0, .bool false, .int .i64 0, .int .i64 0, .int .i64 0, .int .i64 0, .int .i64 0, .int .u32 0, .int .i64 0] 34 (0, 0))) ∧ Below g w W) ∧ Below W1.heap.size W1 W)
    (fun e pre W => (e = .ret ∧ ∃ ys x, pre = ys ++ [x] ∧ (∀ y ∈ ys, ¬ Ac y) ∧ Ac x ∧ W.heap[g + 1]? = some (.cells (cs34 x).toArray 34 (0, 0))) ∧ Below g w W)
    (OwnFrom.and (OwnFrom.and (fun s A B row hs hg hr => ⟨hs.1, gb_blk hg hs.2.1 (fun e => by have := (hr _ e.symm).1; omega), gb_blk hg hs.2.2 (fun e => by have := (hr _ e.symm).1; omega)⟩) (ownFrom_below (Nat.le_of_eq HG.out) (by omega))) (ownFrom_below (Nat.le_refl _) (Nat.le_refl _)))
    (fun e => OwnFrom.and (fun s A B row hs hg hr => ⟨hs.1, by obtain ⟨ys, x, h1, h2, h3, h4⟩ := hs.2; exact ⟨ys, x, h1, h2, h3, gb_blk hg h4 (fun e => by have := (hr _ e.symm).1; omega)⟩⟩) (ownFrom_below (Nat.le_of_eq HG.out) (by omega)))
    ⟨⟨⟨fun x hx => absurd hx (by simp), h3, h4⟩, hB⟩, Below.refl _ _⟩
    (fun x a' W => ∃ B, W1.heap.size ≤ B ∧ a' = ({ tmps := #[.agg #[.slice A xs.length c, .int .i64 p], .int .i64 i, .pointer (some ⟨g, 0, none⟩), undef, .pointer (some ⟨g + 1, 0, none⟩), .pointer (some ⟨B, 0, none⟩), .agg #[.slice A xs.length c, .int .i64 p], .int .i64 i, .func (.func 104) #[] #[.pointer (some ⟨g + 1 + 1, 0, none⟩), .pointer (some ⟨g + 1 + 1 + 1, 0, none⟩)], .agg (cs34 x).toArray, undef, undef, undef, undef, undef, undef, undef, undef], defers := [] } : Act) ∧ W.heap[B]? = some (.cells (cs34 x).toArray 34 (0, 0)))
    (fun x a' => fun s A B row hs hg hr => by obtain ⟨D, h1, h2, h3⟩ := hs; exact ⟨D, h1, h2, gb_blk hg h3 (fun e => by obtain ⟨_, o, ho, hc⟩ := hr _ e.symm; rw [h3] at ho; injection ho with ho; subst ho; exact Bool.noConfusion (show true = false from hc))⟩)
    ?assign ?body ?done ?stop
  case assign =>
    intro l pre x W K hI hK
    have hs := hI.2.size
    have hgs : g ≤ W.heap.size := by omega
    unfold cs34 at hK ⊢
    gi_wp2
    refine hK _ _ (KeepsFrom.of_grownBy (World.grownBy_alloc W _ none) (fun _ e => by cases e)) ((Below.refl _ W).alloc hs _) ⟨⟨⟨hI.1.1.1, blk_alloc hI.1.1.2.1 _, blk_alloc hI.1.1.2.2 _⟩, hI.1.2.alloc hgs _⟩, hI.2.alloc hs _⟩ ⟨W.heap.size, hs, rfl, blk_new W _⟩
  case body =>
    rintro l pre x a' W hl ⟨r, hr⟩ hI ⟨D, hD, rfl, hP⟩ hpl
    have hp := ck11 hP
    have hx := cc11 hI.1.1.2.2
    have HA := Aside0.mk (active_calls x W)
    have hs := hI.2.size
    have hgs : g ≤ W.heap.size := by omega
    have hne : D ≠ g + 1 := by omega
    by_cases hax : Ac x
    · rw [decide_eq_true hax] at HA
      have HAX := Aside0.mk hax
      unfold cs34 at HA ⊢
      gi_wp2_with (first | (gi_at_call 21; refine (callsIn_wide.2 HA.out).mono ?_; rintro e w7 ⟨rfl, hb⟩; have BS := Aside0.mk (blk_below hI.1.1.2.1 hb); have BP := Aside0.mk (blk_below hP hb); have BR := Aside0.mk (blk_below hI.1.1.2.2 hb); have HB7 := Aside0.mk hb; have hp7 := ck11 BP.out; have hx7 := cc11 BR.out; clear hb))
      exact ⟨kf11 (kf_below _ HB7.out) (by omega), ⟨rfl, pre, x, rfl, hI.1.1.1, HAX.out, put11 BR.out⟩, bg11 (hI.1.2.trans (HB7.out.mono hgs)) (Nat.le_succ g)⟩
    · rw [decide_eq_false hax] at HA
      have HAX := Aside0.mk hax
      unfold cs34 at HA ⊢
      gi_wp2_with (first | (gi_at_call 21; refine (callsIn_wide.2 HA.out).mono ?_; rintro e w7 ⟨rfl, hb⟩; have BS := Aside0.mk (blk_below hI.1.1.2.1 hb); have BP := Aside0.mk (blk_below hP hb); have BR := Aside0.mk (blk_below hI.1.1.2.2 hb); have HB7 := Aside0.mk hb; have hp7 := ck11 BP.out; have hx7 := cc11 BR.out; clear hb))
      refine ⟨kf_below _ HB7.out, HB7.out.mono hs, ⟨⟨fun y hy => ?_, BS.out, BR.out⟩, hI.1.2.trans (HB7.out.mono hgs)⟩, hI.2.trans (HB7.out.mono hs)⟩
      rcases List.mem_append.1 hy with h | h
      · exact hI.1.1.1 y h
      · rw [List.mem_singleton] at h; rw [h]; exact HAX.out
  case done =>
    rintro D ys W hD hys hI hK
    obtain ⟨ad, rfl, e0, e1, e2, e3, e4, e5, e6, e7, e8, e9, e10⟩ := at_T34 (Kd.C_below HCo hI.2) (i : Int) (by omega) (by omega)
    obtain ⟨y, hy⟩ : ∃ y, y = rd_T34 xs (i : Int) := ⟨_, rfl⟩
    rw [← hy] at e0 e1 e2 e3 e4 e5 e6 e7 e8 e9 e10
    have HO := Aside0.mk (show otherL xs i = y from by
      unfold otherL
      rw [← hys, List.find?_eq_none.2 (fun z hz => by simpa using hI.1.1.1 z hz), hy]
      unfold rd_T34; rw [Int.toNat_natCast]; rfl)
    rw [Int.toNat_natCast] at e0 e1 e2 e3 e4 e5 e6 e7 e8 e9 e10
    have hx := ck2 hI.1.1.2.1
    have hr := cc11 hI.1.1.2.2
    have HR := Aside0.mk hI.1.1.2.2
    have HB := Aside0.mk hI.1.2
    have HK := Aside0.mk hK
    have hi2 : (i : Int) < (xs.length : Int) := by omega
    have hD2 : D ≠ g + 1 := by omega
    have hD3 : g ≤ D := by omega
    clear hK hI hys hy h3 h4 h5 h6 hB HCo
    go_wp2_with fail
    refine ⟨by simp, .inl ⟨_, _, rfl, run_takeDeferred (far11 HK.out hD2), ?_⟩⟩
    refine ⟨.agg #[.int .i64 y.f0.f0, .int .i64 y.f0.f1, .int .i64 y.f0.f2, .bool y.f0.f3, .int .i64 y.f1.f0, .int .i64 y.f1.f1, .int .i64 y.f1.f2, .int .i64 y.f2, .int .i64 y.f3, .int .u32 y.f4, .int .i64 y.f5], results_cell_row rfl _ _ (g + 1) 34 #[.int .i64 y.f0.f0, .int .i64 y.f0.f1, .int .i64 y.f0.f2, .bool y.f0.f3, .int .i64 y.f1.f0, .int .i64 y.f1.f1, .int .i64 y.f1.f2, .int .i64 y.f2, .int .i64 y.f3, .int .u32 y.f4, .int .i64 y.f5] (0, 0) _ rfl ((World.putObj_heap_other (show g + 1 ≠ D by omega)).trans (put11 HR.out)) Try.underlying34 rfl (by kernel_rfl), ?_, ?_⟩
    · rw [HO.out]; rfl
    · rw [← HG.out]
      exact (bg11 HB.out (Nat.le_succ g)).trans (belowK_b (w := W1) (by omega) _ D _ _ hD (far11 HK.out hD2) rfl rfl)
  case stop =>
    rintro D c2 pre W hD ⟨k, hk, hpre⟩ ⟨⟨rfl, ys, x, h1, h2, h3, h4⟩, hB⟩ hK
    have HO := Aside0.mk (show otherL xs i = x from by
      unfold otherL
      rw [← List.take_append_drop k (seqF xs i), ← hpre, h1, List.append_assoc, List.find?_append, List.find?_eq_none.2 (fun z hz => by simpa using h2 z hz)]
      simp [h3])
    have HK := Aside0.mk hK
    have HB := Aside0.mk hB
    have H4 := Aside0.mk h4
    have hD2 : D ≠ g + 1 := by omega
    clear hK hB h4 h1 h2 h3 hpre h5 h6 HCo
    gi_wp2
    refine ⟨by simp, .inl ⟨_, _, rfl, run_takeDeferred HK.out, ?_⟩⟩
    refine ⟨.agg (cs34 x).toArray, results_cell_row rfl _ _ (g + 1) 34 (cs34 x).toArray (0, 0) _ rfl ((World.putObj_heap_other (show g + 1 ≠ D by omega)).trans H4.out) Try.underlying34 rfl (by kernel_rfl), ?_, ?_⟩
    · rw [HO.out]
    · rw [← HG.out]
      exact HB.out.trans (belowK_b (w := W1) (by omega) _ D _ _ hD HK.out rfl rfl)
end Go.Proofs.Ytblooffiggciiaa.Ps
/- PsY -/
namespace Go.Proofs.Ytblooffiggciiaa.Ps
open Go.RowKit Go.Proofs.Ytblooffiggciiaa.PPs Go.Proofs.YtblooffiggciiaaW.PrintWords Go.Proofs.YtblooffiggciiaaW.PrintLast Go.Proofs.YtblooffiggciiaaW.PrintMore Go.Proofs.Ytblooffiggciiaa.Sh
attribute [local go_sem] Go.Proofs.Ytblooffiggciiaa.Aid.isSome_setCell
def PathR (w : World) (x : S34) (er : Option Int) (e : Ending) (w' : World) : Prop := e = .returned (.tuple #[.agg (cs34 x).toArray, errW er]) ∧ Below w.heap.size w w'
set_option maxHeartbeats 2000000 in
set_option maxRecDepth 100000 in
theorem use_err {w : World} {A : Option Addr} {c : Nat} {l : List S34} (hC : Kd.C k34 w A l.length l) (p : Int) (hg : gdb l p = false) :
    Calls Try.prog 45 #[.agg #[.slice A l.length c, .int .i64 p]] w (PathR w z34 (some 1)) := by
  have hB := b1 (b1 (Below.refl w.heap.size w) (.cells #[.slice A l.length c, .int .i64 p] 70)) (.cells #[.int .i64 0, .int .i64 0, .int .i64 0, .bool false, .int .i64 0, .int .i64 0, .int .i64 0, .int .i64 0, .int .i64 0, .int .u32 0, .int .i64 0] 34)
  have h1 := blk_new (w.alloc (.cells #[.slice A l.length c, .int .i64 p] 70)) (.cells #[.int .i64 0, .int .i64 0, .int .i64 0, .bool false, .int .i64 0, .int .i64 0, .int .i64 0, .int .i64 0, .int .i64 0, .int .u32 0, .int .i64 0] 34)
  rw [sz1] at h1
  have hS := q3 (blk_new w (.cells #[.slice A l.length c, .int .i64 p] 70)) (.cells #[.int .i64 0, .int .i64 0, .int .i64 0, .bool false, .int .i64 0, .int .i64 0, .int .i64 0, .int .i64 0, .int .i64 0, .int .u32 0, .int .i64 0] 34)
  have HC := Aside0.mk (Kd.C_alloc (Kd.C_alloc hC (.cells #[.slice A l.length c, .int .i64 p] 70)) (.cells #[.int .i64 0, .int .i64 0, .int .i64 0, .bool false, .int .i64 0, .int .i64 0, .int .i64 0, .int .i64 0, .int .i64 0, .int .u32 0, .int .i64 0] 34))
  have HF := Aside0.mk (setgood_calls (c := c) HC.out p)
  rw [hg] at HF
  have hz := ck2 hS
  have HB := Aside0.mk hB
  have H1 := Aside0.mk h1
  have HS := Aside0.mk hS
  clear hB h1 hS hC hg
  go_enter Try.func45, Try.ntmps45
  go_wp2_with fail
  refine HF.out.mono ?_
  rintro e w5 ⟨rfl, hb⟩
  have BR5 := Aside0.mk (blk_below H1.out hb)
  have BS5 := Aside0.mk (blk_below HS.out hb)
  have HB5 := Aside0.mk (below_step HB.out hb)
  have HC5 := Aside0.mk (Kd.C_below HC.out hb)
  clear hb hz
  have hz := cc11 BR5.out
  go_wp2_with fail
  have hs : w.heap.size ≤ w.heap.size + 1 := by omega
  refine bodyPost_ret (results_ct rfl _ _ (w.heap.size + 1) 34 #[.int .i64 0, .int .i64 0, .int .i64 0, .bool false, .int .i64 0, .int .i64 0, .int .i64 0, .int .i64 0, .int .i64 0, .int .u32 0, .int .i64 0] (0, 0) _ rfl (put11 BR5.out) Try.underlying34 rfl (by kernel_rfl)) rfl ?_
  exact ⟨rfl, bel11 HB5.out hs⟩
set_option maxHeartbeats 2000000 in
set_option maxRecDepth 100000 in
theorem use_prim {w : World} {A : Option Addr} {c : Nat} {l : List S34} (hC : Kd.C k34 w A l.length l) (p : Int) (hg : gdb l p = true) (hp0 : 0 ≤ p) (hp1 : p < l.length) (HA : Aside0 (Ac (l.getD p.toNat z34))) :
    Calls Try.prog 45 #[.agg #[.slice A l.length c, .int .i64 p]] w (PathR w (l.getD p.toNat z34) none) := by
  have hB := b1 (b1 (Below.refl w.heap.size w) (.cells #[.slice A l.length c, .int .i64 p] 70)) (.cells #[.int .i64 0, .int .i64 0, .int .i64 0, .bool false, .int .i64 0, .int .i64 0, .int .i64 0, .int .i64 0, .int .i64 0, .int .u32 0, .int .i64 0] 34)
  have h1 := blk_new (w.alloc (.cells #[.slice A l.length c, .int .i64 p] 70)) (.cells #[.int .i64 0, .int .i64 0, .int .i64 0, .bool false, .int .i64 0, .int .i64 0, .int .i64 0, .int .i64 0, .int .i64 0, .int .u32 0, .int .i64 0] 34)
  rw [sz1] at h1
  have hS := q3 (blk_new w (.cells #[.slice A l.length c, .int .i64 p] 70)) (.cells #[.int .i64 0, .int .i64 0, .int .i64 0, .bool false, .int .i64 0, .int .i64 0, .int .i64 0, .int .i64 0, .int .i64 0, .int .u32 0, .int .i64 0] 34)
  have HC := Aside0.mk (Kd.C_alloc (Kd.C_alloc hC (.cells #[.slice A l.length c, .int .i64 p] 70)) (.cells #[.int .i64 0, .int .i64 0, .int .i64 0, .bool false, .int .i64 0, .int .i64 0, .int .i64 0, .int .i64 0, .int .i64 0, .int .u32 0, .int .i64 0] 34))
  have HF := Aside0.mk (setgood_calls (c := c) HC.out p)
  rw [hg] at HF
  have hz := ck2 hS
  have HB := Aside0.mk hB
  have H1 := Aside0.mk h1
  have HS := Aside0.mk hS
  clear hB h1 hS hC hg
  go_enter Try.func45, Try.ntmps45
  go_wp2_with fail
  refine HF.out.mono ?_
  rintro e w5 ⟨rfl, hb⟩
  have BR5 := Aside0.mk (blk_below H1.out hb)
  have BS5 := Aside0.mk (blk_below HS.out hb)
  have HB5 := Aside0.mk (below_step HB.out hb)
  have HC5 := Aside0.mk (Kd.C_below HC.out hb)
  clear hb hz
  obtain ⟨i, rfl⟩ : ∃ i : Nat, p = i := ⟨p.toNat, by omega⟩
  obtain ⟨ad, rfl, h0, h1, h2, h3, h4, h5, h6, h7, h8, h9, h10⟩ := at_T34 HC5.out (i : Int) (by omega) (by omega)
  obtain ⟨y, hy⟩ : ∃ y, y = rd_T34 l (i : Int) := ⟨_, rfl⟩
  rw [← hy] at h0 h1 h2 h3 h4 h5 h6 h7 h8 h9 h10
  have hy2 : l.getD (i : Int).toNat z34 = y := by rw [hy]; rfl
  rw [hy2] at HA
  have HY := Aside0.mk hy2
  rw [Int.toNat_natCast] at h0 h1 h2 h3 h4 h5 h6 h7 h8 h9 h10
  have hji : (i : Int) < (l.length : Int) := by omega
  clear hy hy2
  have hz := ck2 BS5.out
  have HAc := Aside0.mk (active_calls y (w5.alloc (.cells #[.int .i64 y.f0.f0, .int .i64 y.f0.f1, .int .i64 y.f0.f2, .bool y.f0.f3, .int .i64 y.f1.f0, .int .i64 y.f1.f1, .int .i64 y.f1.f2, .int .i64 y.f2, .int .i64 y.f3, .int .u32 y.f4, .int .i64 y.f5] 34)))
  rw [decide_eq_true HA.out] at HAc
  go_wp2_with fail
  refine HAc.out.mono ?_
  rintro e w6 ⟨rfl, hb⟩
  have BR6 := Aside0.mk (blk_below (q3 BR5.out _) hb)
  have BP6 := Aside0.mk (blk_below (blk_new w5 (.cells #[.int .i64 y.f0.f0, .int .i64 y.f0.f1, .int .i64 y.f0.f2, .bool y.f0.f3, .int .i64 y.f1.f0, .int .i64 y.f1.f1, .int .i64 y.f1.f2, .int .i64 y.f2, .int .i64 y.f3, .int .u32 y.f4, .int .i64 y.f5] 34)) hb)
  have HB6 := Aside0.mk (below_step (b1 HB5.out _) hb)
  clear hb hz h0 h1 h2 h3 h4 h5 h6 h7 h8 h9 h10
  have hz := ck11 BP6.out
  have hx := cc11 BR6.out
  go_wp2_with fail
  have hs : w.heap.size ≤ w.heap.size + 1 := by omega
  refine bodyPost_ret (results_ct rfl _ _ (w.heap.size + 1) 34 #[.int .i64 y.f0.f0, .int .i64 y.f0.f1, .int .i64 y.f0.f2, .bool y.f0.f3, .int .i64 y.f1.f0, .int .i64 y.f1.f1, .int .i64 y.f1.f2, .int .i64 y.f2, .int .i64 y.f3, .int .u32 y.f4, .int .i64 y.f5] (0, 0) _ rfl (put11 BR6.out) Try.underlying34 rfl (by kernel_rfl)) rfl ?_
  rw [HY.out]
  exact ⟨rfl, bel11 HB6.out hs⟩
set_option maxHeartbeats 2000000 in
set_option maxRecDepth 100000 in
theorem use_other {w : World} {A : Option Addr} {c : Nat} {l : List S34} (hC : Kd.C k34 w A l.length l) (p : Int) (hg : gdb l p = true) (hp0 : 0 ≤ p) (hp1 : p < l.length) (hl : l.length ≤ 1000) (HA : Aside0 (¬ Ac (l.getD p.toNat z34))) :
    Calls Try.prog 45 #[.agg #[.slice A l.length c, .int .i64 p]] w (PathR w (otherL l p.toNat) none) := by
  have hB := b1 (b1 (Below.refl w.heap.size w) (.cells #[.slice A l.length c, .int .i64 p] 70)) (.cells #[.int .i64 0, .int .i64 0, .int .i64 0, .bool false, .int .i64 0, .int .i64 0, .int .i64 0, .int .i64 0, .int .i64 0, .int .u32 0, .int .i64 0] 34)
  have h1 := blk_new (w.alloc (.cells #[.slice A l.length c, .int .i64 p] 70)) (.cells #[.int .i64 0, .int .i64 0, .int .i64 0, .bool false, .int .i64 0, .int .i64 0, .int .i64 0, .int .i64 0, .int .i64 0, .int .u32 0, .int .i64 0] 34)
  rw [sz1] at h1
  have hS := q3 (blk_new w (.cells #[.slice A l.length c, .int .i64 p] 70)) (.cells #[.int .i64 0, .int .i64 0, .int .i64 0, .bool false, .int .i64 0, .int .i64 0, .int .i64 0, .int .i64 0, .int .i64 0, .int .u32 0, .int .i64 0] 34)
  have HC := Aside0.mk (Kd.C_alloc (Kd.C_alloc hC (.cells #[.slice A l.length c, .int .i64 p] 70)) (.cells #[.int .i64 0, .int .i64 0, .int .i64 0, .bool false, .int .i64 0, .int .i64 0, .int .i64 0, .int .i64 0, .int .i64 0, .int .u32 0, .int .i64 0] 34))
  have HF := Aside0.mk (setgood_calls (c := c) HC.out p)
  rw [hg] at HF
  have hz := ck2 hS
  have HB := Aside0.mk hB
  have H1 := Aside0.mk h1
  have HS := Aside0.mk hS
  clear hB h1 hS hC hg
  go_enter Try.func45, Try.ntmps45
  go_wp2_with fail
  refine HF.out.mono ?_
  rintro e w5 ⟨rfl, hb⟩
  have BR5 := Aside0.mk (blk_below H1.out hb)
  have BS5 := Aside0.mk (blk_below HS.out hb)
  have HB5 := Aside0.mk (below_step HB.out hb)
  have HC5 := Aside0.mk (Kd.C_below HC.out hb)
  clear hb hz
  obtain ⟨i, rfl⟩ : ∃ i : Nat, p = i := ⟨p.toNat, by omega⟩
  obtain ⟨ad, rfl, h0, h1, h2, h3, h4, h5, h6, h7, h8, h9, h10⟩ := at_T34 HC5.out (i : Int) (by omega) (by omega)
  obtain ⟨y, hy⟩ : ∃ y, y = rd_T34 l (i : Int) := ⟨_, rfl⟩
  rw [← hy] at h0 h1 h2 h3 h4 h5 h6 h7 h8 h9 h10
  have hy2 : l.getD (i : Int).toNat z34 = y := by rw [hy]; rfl
  rw [hy2] at HA
  have HY := Aside0.mk hy2
  rw [Int.toNat_natCast] at h0 h1 h2 h3 h4 h5 h6 h7 h8 h9 h10
  have hji : (i : Int) < (l.length : Int) := by omega
  clear hy hy2
  have hz := ck2 BS5.out
  have HAc := Aside0.mk (active_calls y (w5.alloc (.cells #[.int .i64 y.f0.f0, .int .i64 y.f0.f1, .int .i64 y.f0.f2, .bool y.f0.f3, .int .i64 y.f1.f0, .int .i64 y.f1.f1, .int .i64 y.f1.f2, .int .i64 y.f2, .int .i64 y.f3, .int .u32 y.f4, .int .i64 y.f5] 34)))
  rw [decide_eq_false HA.out] at HAc
  go_wp2_with fail
  refine HAc.out.mono ?_
  rintro e w6 ⟨rfl, hb⟩
  have BR6 := Aside0.mk (blk_below (q3 BR5.out _) hb)
  have BS6 := Aside0.mk (blk_below (q3 BS5.out _) hb)
  have HB6 := Aside0.mk (below_step (b1 HB5.out _) hb)
  have HO := Aside0.mk (other_calls (c := c) (Kd.C_below (Kd.C_alloc HC5.out _) hb) (i : Int) i (by omega) hl)
  obtain ⟨u, hu⟩ : ∃ u, u = otherL l i := ⟨_, rfl⟩
  rw [← hu] at HO
  have HU := Aside0.mk hu
  clear hu hb hz h0 h1 h2 h3 h4 h5 h6 h7 h8 h9 h10
  have hz := ck2 BS6.out
  go_wp2_with fail
  refine HO.out.mono ?_
  rintro e w7 ⟨rfl, hb⟩
  have BR7 := Aside0.mk (blk_below BR6.out hb)
  have HB7 := Aside0.mk (below_step HB6.out hb)
  clear hb hz
  have hx := cc11 BR7.out
  unfold cs34
  go_wp2_with fail
  have hs : w.heap.size ≤ w.heap.size + 1 := by omega
  refine bodyPost_ret (results_ct rfl _ _ (w.heap.size + 1) 34 #[.int .i64 u.f0.f0, .int .i64 u.f0.f1, .int .i64 u.f0.f2, .bool u.f0.f3, .int .i64 u.f1.f0, .int .i64 u.f1.f1, .int .i64 u.f1.f2, .int .i64 u.f2, .int .i64 u.f3, .int .u32 u.f4, .int .i64 u.f5] (0, 0) _ rfl (put11 BR7.out) Try.underlying34 rfl (by kernel_rfl)) rfl ?_
  rw [Int.toNat_natCast, ← HU.out]
  exact ⟨rfl, bel11 HB7.out hs⟩
def useL (l : List S34) (p : Int) : S34 × Option Int :=
  if gdb l p = true then (if Ac (l.getD p.toNat z34) then (l.getD p.toNat z34, none) else (otherL l p.toNat, none)) else (z34, some 1)
theorem use_calls {w : World} {A : Option Addr} {c : Nat} {l : List S34} (hC : Kd.C k34 w A l.length l) (p : Int) (hl : l.length ≤ 1000) :
    Calls Try.prog 45 #[.agg #[.slice A l.length c, .int .i64 p]] w (PathR w (useL l p).1 (useL l p).2) := by
  unfold useL
  cases hg : gdb l p with
  | false => rw [if_neg (by simp)]; exact use_err hC p hg
  | true =>
    rw [if_pos rfl]
    have hp : 0 ≤ p ∧ p < l.length := by
      have h := hg
      unfold gdb at h
      simp only [Bool.and_eq_true, decide_eq_true_eq] at h
      exact h.1.1.2
    by_cases ha : Ac (l.getD p.toNat z34)
    · rw [if_pos ha]; exact use_prim hC p hg hp.1 hp.2 ⟨ha⟩
    · rw [if_neg ha]; exact use_other hC p hg hp.1 hp.2 hl ⟨ha⟩
end Go.Proofs.Ytblooffiggciiaa.Ps
/- PsZ -/
namespace Go.Proofs.Ytblooffiggciiaa.Ps
open Go.RowKit Go.Proofs.Ytblooffiggciiaa.PPs Go.Proofs.YtblooffiggciiaaW.PrintWords Go.Proofs.YtblooffiggciiaaW.PrintLast Go.Proofs.YtblooffiggciiaaW.PrintMore Go.Proofs.Ytblooffiggciiaa.Sh
attribute [local go_sem] Go.Proofs.Ytblooffiggciiaa.Aid.isSome_setCell
set_option maxHeartbeats 2000000 in
set_option maxRecDepth 100000 in
theorem again_err {w : World} {A : Option Addr} {c : Nat} {l : List S34} (hC : Kd.C k34 w A l.length l) (p a er : Int) (hl : l.length ≤ 1000) (hf : fnd l p a = (0, some er)) :
    Calls Try.prog 46 #[.agg #[.slice A l.length c, .int .i64 p], .int .i64 a] w (PathR w (useL l p).1 (useL l p).2) := by
  have hB := b1 (b1 (Below.refl w.heap.size w) (.cells #[.slice A l.length c, .int .i64 p] 70)) (.cells #[.int .i64 0, .int .i64 0, .int .i64 0, .bool false, .int .i64 0, .int .i64 0, .int .i64 0, .int .i64 0, .int .i64 0, .int .u32 0, .int .i64 0] 34)
  have h1 := blk_new (w.alloc (.cells #[.slice A l.length c, .int .i64 p] 70)) (.cells #[.int .i64 0, .int .i64 0, .int .i64 0, .bool false, .int .i64 0, .int .i64 0, .int .i64 0, .int .i64 0, .int .i64 0, .int .u32 0, .int .i64 0] 34)
  rw [sz1] at h1
  have hS := q3 (blk_new w (.cells #[.slice A l.length c, .int .i64 p] 70)) (.cells #[.int .i64 0, .int .i64 0, .int .i64 0, .bool false, .int .i64 0, .int .i64 0, .int .i64 0, .int .i64 0, .int .i64 0, .int .u32 0, .int .i64 0] 34)
  have HC := Aside0.mk (Kd.C_alloc (Kd.C_alloc hC (.cells #[.slice A l.length c, .int .i64 p] 70)) (.cells #[.int .i64 0, .int .i64 0, .int .i64 0, .bool false, .int .i64 0, .int .i64 0, .int .i64 0, .int .i64 0, .int .i64 0, .int .u32 0, .int .i64 0] 34))
  have HF := Aside0.mk (find_calls (c := c) HC.out p a)
  rw [hf] at HF
  have hz := ck2 hS
  have HB := Aside0.mk hB
  have H1 := Aside0.mk h1
  have HS := Aside0.mk hS
  clear hB h1 hS hC hf
  go_enter Try.func46, Try.ntmps46
  go_wp2_with fail
  refine HF.out.mono ?_
  rintro e w5 ⟨rfl, hb⟩
  have BR5 := Aside0.mk (blk_below H1.out hb)
  have BS5 := Aside0.mk (blk_below HS.out hb)
  have HB5 := Aside0.mk (below_step HB.out hb)
  have HC5 := Aside0.mk (Kd.C_below HC.out hb)
  clear hb hz
  have hz := ck2 BS5.out
  have HO := Aside0.mk (use_calls (c := c) HC5.out p hl)
  obtain ⟨u, hu⟩ : ∃ u, u = (useL l p).1 := ⟨_, rfl⟩
  obtain ⟨v, hv⟩ : ∃ v, v = errW (useL l p).2 := ⟨_, rfl⟩
  unfold PathR at HO
  rw [← hu, ← hv] at HO
  have HU := Aside0.mk hu
  have HV := Aside0.mk hv
  clear hu hv
  have he : errW (some er) = Value.iface 42 (.int .i64 er) := rfl
  simp only [he]
  clear he
  go_wp2_with fail
  refine HO.out.mono ?_
  rintro e w7 ⟨rfl, hb⟩
  have BR7 := Aside0.mk (blk_below BR5.out hb)
  have HB7 := Aside0.mk (below_step HB5.out hb)
  clear hb hz
  have hx := cc11 BR7.out
  unfold cs34
  go_wp2_with fail
  have hs : w.heap.size ≤ w.heap.size + 1 := by omega
  refine bodyPost_ret (results_ct rfl _ _ (w.heap.size + 1) 34 #[.int .i64 u.f0.f0, .int .i64 u.f0.f1, .int .i64 u.f0.f2, .bool u.f0.f3, .int .i64 u.f1.f0, .int .i64 u.f1.f1, .int .i64 u.f1.f2, .int .i64 u.f2, .int .i64 u.f3, .int .u32 u.f4, .int .i64 u.f5] (0, 0) _ rfl (put11 BR7.out) Try.underlying34 rfl (by kernel_rfl)) rfl ?_
  unfold PathR
  rw [← HU.out, ← HV.out]
  exact ⟨rfl, bel11 HB7.out hs⟩
set_option maxHeartbeats 2000000 in
set_option maxRecDepth 100000 in
theorem again_ok {w : World} {A : Option Addr} {c : Nat} {l : List S34} (hC : Kd.C k34 w A l.length l) (p a : Int) (hl : l.length ≤ 1000) (i : Nat) (hi : i < l.length) (hf : fnd l p a = ((i : Int), none)) :
    Calls Try.prog 46 #[.agg #[.slice A l.length c, .int .i64 p], .int .i64 a] w (PathR w (otherL l i) none) := by
  have hB := b1 (b1 (Below.refl w.heap.size w) (.cells #[.slice A l.length c, .int .i64 p] 70)) (.cells #[.int .i64 0, .int .i64 0, .int .i64 0, .bool false, .int .i64 0, .int .i64 0, .int .i64 0, .int .i64 0, .int .i64 0, .int .u32 0, .int .i64 0] 34)
  have h1 := blk_new (w.alloc (.cells #[.slice A l.length c, .int .i64 p] 70)) (.cells #[.int .i64 0, .int .i64 0, .int .i64 0, .bool false, .int .i64 0, .int .i64 0, .int .i64 0, .int .i64 0, .int .i64 0, .int .u32 0, .int .i64 0] 34)
  rw [sz1] at h1
  have hS := q3 (blk_new w (.cells #[.slice A l.length c, .int .i64 p] 70)) (.cells #[.int .i64 0, .int .i64 0, .int .i64 0, .bool false, .int .i64 0, .int .i64 0, .int .i64 0, .int .i64 0, .int .i64 0, .int .u32 0, .int .i64 0] 34)
  have HC := Aside0.mk (Kd.C_alloc (Kd.C_alloc hC (.cells #[.slice A l.length c, .int .i64 p] 70)) (.cells #[.int .i64 0, .int .i64 0, .int .i64 0, .bool false, .int .i64 0, .int .i64 0, .int .i64 0, .int .i64 0, .int .i64 0, .int .u32 0, .int .i64 0] 34))
  have HF := Aside0.mk (find_calls (c := c) HC.out p a)
  rw [hf] at HF
  have hz := ck2 hS
  have HB := Aside0.mk hB
  have H1 := Aside0.mk h1
  have HS := Aside0.mk hS
  clear hB h1 hS hC hf
  go_enter Try.func46, Try.ntmps46
  go_wp2_with fail
  refine HF.out.mono ?_
  rintro e w5 ⟨rfl, hb⟩
  have BR5 := Aside0.mk (blk_below H1.out hb)
  have BS5 := Aside0.mk (blk_below HS.out hb)
  have HB5 := Aside0.mk (below_step HB.out hb)
  have HC5 := Aside0.mk (Kd.C_below HC.out hb)
  clear hb hz
  have hz := ck2 BS5.out
  have HO := Aside0.mk (other_calls (c := c) HC5.out p i hi hl)
  obtain ⟨u, hu⟩ : ∃ u, u = otherL l i := ⟨_, rfl⟩
  rw [← hu] at HO
  have HU := Aside0.mk hu
  clear hu
  have he : errW none = Value.nilIface := rfl
  simp only [he]
  clear he
  go_wp2_with fail
  refine HO.out.mono ?_
  rintro e w7 ⟨rfl, hb⟩
  have BR7 := Aside0.mk (blk_below BR5.out hb)
  have HB7 := Aside0.mk (below_step HB5.out hb)
  clear hb hz
  have hx := cc11 BR7.out
  unfold cs34
  go_wp2_with fail
  have hs : w.heap.size ≤ w.heap.size + 1 := by omega
  refine bodyPost_ret (results_ct rfl _ _ (w.heap.size + 1) 34 #[.int .i64 u.f0.f0, .int .i64 u.f0.f1, .int .i64 u.f0.f2, .bool u.f0.f3, .int .i64 u.f1.f0, .int .i64 u.f1.f1, .int .i64 u.f1.f2, .int .i64 u.f2, .int .i64 u.f3, .int .u32 u.f4, .int .i64 u.f5] (0, 0) _ rfl (put11 BR7.out) Try.underlying34 rfl (by kernel_rfl)) rfl ?_
  rw [← HU.out]
  exact ⟨rfl, bel11 HB7.out hs⟩
def againL (l : List S34) (p a : Int) : S34 × Option Int :=
  match fnd l p a with
  | (q, none) => (otherL l q.toNat, none)
  | (_, some _) => useL l p
theorem again_calls {w : World} {A : Option Addr} {c : Nat} {l : List S34} (hC : Kd.C k34 w A l.length l) (p a : Int) (hl : l.length ≤ 1000) :
    Calls Try.prog 46 #[.agg #[.slice A l.length c, .int .i64 p], .int .i64 a] w (PathR w (againL l p a).1 (againL l p a).2) := by
  unfold againL
  rcases fnd_at l p a with ⟨e, he⟩ | ⟨i, hi, he, _⟩
  · rw [he]; exact again_err hC p a e hl he
  · rw [he]; exact again_ok hC p a hl i hi he
end Go.Proofs.Ytblooffiggciiaa.Ps
/- PsAa -/
namespace Go.Proofs.Ytblooffiggciiaa.Ps
open Go.RowKit Go.Proofs.Ytblooffiggciiaa.PPs
set_option maxRecDepth 100000
theorem ex_new : newL [1, 2, 3] = ([newS 1, newS 2, newS 3], 0, none) := by
  unfold newL
  rw [if_neg (by decide), if_pos (by intro a ha; simp at ha; rcases ha with rfl | rfl | rfl <;> decide), if_neg (by decide)]
  rfl
def six (x : S34) : S34 := failedS (failedS (failedS (failedS (failedS (failedS x)))))
def exP : S34 := six (newS 1)
theorem ex_put : putL [newS 1, newS 2, newS 3] 0 exP = ([exP, newS 2, newS 3], 0, none) := by kernel_rfl
theorem ex_use : useL [exP, newS 2, newS 3] 0 = (newS 2, none) := by kernel_rfl
theorem ex_again : againL [exP, newS 2, newS 3] 0 2 = (newS 3, none) := by kernel_rfl
end Go.Proofs.Ytblooffiggciiaa.Ps
/- PsAb -/
namespace Go.Proofs.Ytblooffiggciiaa.Ps
open Go.RowKit Go.Proofs.Ytblooffiggciiaa.PPs Go.Proofs.YtblooffiggciiaaW.PrintWords Go.Proofs.YtblooffiggciiaaW.PrintLast Go.Proofs.YtblooffiggciiaaW.PrintMore Go.Proofs.Ytblooffiggciiaa.Sh
attribute [local go_sem] Go.Proofs.Ytblooffiggciiaa.Aid.isSome_setCell
theorem ex_row (w : World) : Kd.C (Kd.int .i64) (w.alloc (.cells #[.int .i64 1, .int .i64 2, .int .i64 3] 26)) (some ⟨w.heap.size, 0, none⟩) [1, 2, 3].length [1, 2, 3] := by
  have hz := ck3 (blk_new w (.cells #[.int .i64 1, .int .i64 2, .int .i64 3] 26))
  refine ⟨rfl, by simp, fun _ => ⟨_, rfl, ?_⟩⟩
  intro j p hp
  refine ⟨[.int .i64 p], rfl, rfl, ?_⟩
  intro i u hu
  have hi : i = 0 ∧ u = .int .i64 p := by
    cases i with
    | zero => exact ⟨rfl, (Option.some.inj hu).symm⟩
    | succ i => simp at hu
  obtain ⟨rfl, rfl⟩ := hi
  rcases j with _ | _ | _ | j
  · cases hp; exact hz.1
  · cases hp; exact hz.2.1
  · cases hp; exact hz.2.2
  · simp at hp
def fl : Nat → S34 → S34
  | 0, x => x
  | k + 1, x => failedS (fl k x)
theorem fl_six (x : S34) : fl 6 x = six x := rfl
set_option maxHeartbeats 4000000 in
set_option maxRecDepth 100000 in
theorem alive_calls (w : World) : Calls Try.prog 35 #[] w fun e w' => e = .returned (.bool true) ∧ Below w.heap.size w w' := by
  have HN := Aside0.mk (setnew_calls (c := 3) (ex_row w))
  rw [ex_new] at HN
  have HB := Aside0.mk (b1 (Below.refl w.heap.size w) (.cells #[.int .i64 1, .int .i64 2, .int .i64 3] 26))
  go_enter Try.func35, Try.ntmps35
  go_wp2_with fail
  refine HN.out.mono ?_
  rintro e w1 ⟨v, rfl, hR, hb⟩
  obtain ⟨A, c, rfl⟩ := Kd.R_slice hR
  have HC1 := Aside0.mk (Kd.R_reads' hR).2.2
  have Hcc := Aside0.mk (Kd.R_reads' hR).2.1
  have HB1 := Aside0.mk (below_step HB.out hb)
  clear hb hR
  have he : errW none = Value.nilIface := rfl
  simp only [he]
  clear he
  have HX := Aside0.mk (blk_new w1 (.cells #[.slice A [newS 1, newS 2, newS 3].length c, .int .i64 0] 70))
  have HCa := Aside0.mk (Kd.C_alloc HC1.out (.cells #[.slice A [newS 1, newS 2, newS 3].length c, .int .i64 0] 70))
  obtain ⟨ad, rfl, h0, h1, h2, h3, h4, h5, h6, h7, h8, h9, h10⟩ := at_T34 HCa.out 0 (by decide) (by decide)
  have hadd : ad.add ((0 : Int).toNat * 11) = ad := by cases ad; rfl
  rw [hadd] at h0 h1 h2 h3 h4 h5 h6 h7 h8 h9 h10
  clear hadd
  obtain ⟨y, hy⟩ : ∃ y, y = rd_T34 [newS 1, newS 2, newS 3] 0 := ⟨_, rfl⟩
  rw [← hy] at h0 h1 h2 h3 h4 h5 h6 h7 h8 h9 h10
  have HY := Aside0.mk (show y = newS 1 from hy)
  obtain ⟨l, hl⟩ : ∃ l, l = [newS 1, newS 2, newS 3] := ⟨_, rfl⟩
  rw [← hl] at HX HC1 HCa Hcc h0 h1 h2 h3 h4 h5 h6 h7 h8 h9 h10 ⊢
  have hn : l.length = 3 := by rw [hl]; rfl
  rw [hn] at HX HC1 HCa Hcc h0 h1 h2 h3 h4 h5 h6 h7 h8 h9 h10 ⊢
  have HL := Aside0.mk hl
  clear hl hy hn
  have hz := ck2 HX.out
  go_wp2_with fail
  have BX0 := q3 HX.out (.cells (cs34 y).toArray 34)
  have BP0 := blk_new (w1.alloc (.cells #[.slice (some ad) 3 c, .int .i64 0] 70)) (.cells (cs34 y).toArray 34)
  have HB0 := b1 (b1 (Below.refl w1.heap.size w1) (.cells #[.slice (some ad) 3 c, .int .i64 0] 70)) (.cells (cs34 y).toArray 34)
  rw [sz1] at BP0
  unfold cs34 at BX0 BP0 HB0
  obtain ⟨W0, hW⟩ : ∃ W0, W0 = (w1.alloc (.cells #[.slice (some ad) 3 c, .int .i64 0] 70)).alloc (.cells #[.int .i64 y.f0.f0, .int .i64 y.f0.f1, .int .i64 y.f0.f2, .bool y.f0.f3, .int .i64 y.f1.f0, .int .i64 y.f1.f1, .int .i64 y.f1.f2, .int .i64 y.f2, .int .i64 y.f3, .int .u32 y.f4, .int .i64 y.f5] 34) := ⟨_, rfl⟩
  rw [← hW] at BX0 BP0 HB0 ⊢
  clear hW
  obtain ⟨g, hg⟩ : ∃ g, g = w1.heap.size := ⟨_, rfl⟩
  rw [← hg] at BX0 BP0 ⊢
  have HG := Aside0.mk hg
  clear HX h0 h1 h2 h3 h4 h5 h6 h7 h8 h9 h10 hz HCa hg
  go_loopw [25] (fun i wr => ∃ (j : Nat) (x : S34), j ≤ 6 ∧ i = .int .i64 (j : Nat) ∧ Aside0 (x = fl j y) ∧ Aside0 (Below w1.heap.size w1 wr) ∧ Aside0 (wr.heap[g]? = some (.cells #[.slice (some ad) 3 c, .int .i64 0] 70 (0, 0))) ∧ Aside0 (wr.heap[g + 1]? = some (.cells (cs34 x).toArray 34 (0, 0)))) (fun i _ => 6 - (intOf i).toNat)
  case atStart => exact ⟨0, y, by omega, rfl, ⟨rfl⟩, ⟨HB0⟩, ⟨BX0⟩, ⟨BP0⟩⟩
  case round =>
    clear BX0 BP0 HB0
    obtain ⟨j, x, hj, rfl, HF, HBr, BX, BP⟩ := hrel
    have hp := cc11 BP.out
    by_cases hlt : j < 6
    · have HFa := Aside0.mk (failed_calls x wr)
      obtain ⟨u, hu⟩ : ∃ u, u = failedS x := ⟨_, rfl⟩
      rw [← hu] at HFa
      have HU := Aside0.mk hu
      clear hu
      unfold cs34 at HFa
      have hj6 : (j : Int) < 6 := by omega
      go_wp2_with fail
      refine HFa.out.mono ?_
      rintro e w5 ⟨rfl, hb⟩
      have BX5 := Aside0.mk (blk_below BX.out hb)
      have BP5 := Aside0.mk (blk_below BP.out hb)
      have HB5 := Aside0.mk (below_step HBr.out hb)
      clear hb hp
      have hp := cc11 BP5.out
      go_wp2_with fail
      go_roundw
      case rel =>
        have hs : w1.heap.size ≤ g + 1 := by rw [HG.out]; omega
        refine ⟨j + 1, u, by omega, by go_num, ⟨?_⟩, ⟨bel11 HB5.out hs⟩, ⟨far11 BX5.out (by omega)⟩, ⟨put11 BP5.out⟩⟩
        rw [HU.out, HF.out]; rfl
      case measure => simp [intOf]; omega
    · obtain rfl : j = 6 := by omega
      have HE := Aside0.mk (show x = exP from by rw [HF.out, fl_six, HY.out]; rfl)
      have HLn := Aside0.mk (show l.length = 3 from by rw [HL.out]; rfl)
      have HPu := Aside0.mk (put_calls (w := wr) (A := some ad) (l := l) (c := c) (by rw [HLn.out]; exact Kd.C_below HC1.out HBr.out) (by rw [HLn.out]; exact Hcc.out) (by rw [HLn.out]; decide) 0 x)
      rw [HLn.out] at HPu
      rw [show putL l 0 x = ([exP, newS 2, newS 3], 0, none) from by rw [HL.out, HE.out]; exact ex_put] at HPu
      have hx := cc2 BX.out
      unfold cs34 at HPu
      go_wp2_with fail
      refine HPu.out.mono ?_
      rintro e w6 ⟨v2, rfl, hR, hb⟩
      obtain ⟨A2, c2, rfl⟩ := Kd.R_slice hR
      have BX6 := Aside0.mk (blk_below BX.out hb)
      have HB6 := Aside0.mk (below_step HBr.out hb)
      have hC7 := (Kd.R_reads' (rr2 (v := .slice A2 [exP, newS 2, newS 3].length c2) (q := .int .i64 0) hR BX6.out)).2.2
      have BX7 := Aside0.mk (put2 (v := .slice A2 [exP, newS 2, newS 3].length c2) (q := .int .i64 0) BX6.out)
      have HB7 := Aside0.mk (bel2 (v := .slice A2 [exP, newS 2, newS 3].length c2) (q := .int .i64 0) HB6.out (show w1.heap.size ≤ g from Nat.le_of_eq HG.out.symm))
      have HUs := use_calls (c := c2) hC7 0 (by decide)
      rw [ex_use] at HUs
      have HUs := Aside0.mk HUs
      have HC7 := Aside0.mk hC7
      clear hb hR hp hx hC7
      have hx := cc2 BX6.out
      have he : errW none = Value.nilIface := rfl
      simp only [he]
      clear he
      go_wp2_with fail
      refine HUs.out.mono ?_
      rintro e w8 ⟨rfl, hb⟩
      have BX8 := Aside0.mk (q3 (blk_below BX7.out hb) (.cells (cs34 (newS 2)).toArray 34))
      have BU8 := Aside0.mk (blk_new w8 (.cells (cs34 (newS 2)).toArray 34))
      have HB8 := Aside0.mk (b1 (below_step HB7.out hb) (.cells (cs34 (newS 2)).toArray 34))
      have hC8 := Kd.C_alloc (Kd.C_below HC7.out hb) (.cells (cs34 (newS 2)).toArray 34)
      have HAs := again_calls (c := c2) hC8 0 2 (by decide)
      rw [ex_again] at HAs
      have HAs := Aside0.mk HAs
      clear hb hx hC8
      unfold cs34 newS at BX8 BU8 HB8 HAs
      have hx := cc2 BX8.out
      unfold cs34 newS
      have he : errW none = Value.nilIface := rfl
      simp only [he]
      clear he
      go_wp2_with fail
      refine HAs.out.mono ?_
      rintro e w9 ⟨rfl, hb⟩
      have BU9 := Aside0.mk (q3 (blk_below BU8.out hb) (.cells (cs34 (newS 3)).toArray 34))
      have BV9 := Aside0.mk (blk_new w9 (.cells (cs34 (newS 3)).toArray 34))
      have HB9 := Aside0.mk (b1 (below_step HB8.out hb) (.cells (cs34 (newS 3)).toArray 34))
      clear hb hx
      unfold cs34 newS at BU9 BV9 HB9
      have hx := cc11 BU9.out
      have hy := cc11 BV9.out
      unfold cs34
      have he : errW none = Value.nilIface := rfl
      simp only [he]
      clear he
      go_wp2_with fail
      go_ret
      exact ⟨rfl, HB1.out.trans (HB9.out.mono (below_size HB1.out))⟩
end Go.Proofs.Ytblooffiggciiaa.Ps
/- PPsx18 -/
namespace Go.Proofs.Ytblooffiggciiaa.PPs
open Go.RowKit Go.Proofs.YtblooffiggciiaaW.PrintWords Go.Proofs.YtblooffiggciiaaW.PrintLast Go.Proofs.YtblooffiggciiaaW.PrintMore
attribute [local go_sem] max2_int min2_int max_two min_two max_three min_three max_four min_four   -- for this text's walks alone
attribute [local go_sem] Go.Proofs.Ytblooffiggciiaa.Aid.isSome_setCell
def weftlinelaw13_Program.f (a0_0 : Int) (a0_1 : Int) (a0_2 : Int) (a0_3 : Bool) (a0_4 : Int) (a0_5 : Int) (a0_6 : Int) (a0_7 : Int) (a0_8 : Int) (a0_9 : Int) (a0_10 : Int) : Option (Int × Int × Int × Bool × Int × Int × Int × Int × Int × Int × Int) := some (a0_0, a0_1, a0_2, a0_3, a0_4, a0_5, a0_6, a0_7, a0_8, a0_9, a0_10)
set_option maxHeartbeats 8000000 in
set_option maxRecDepth 100000 in
theorem weftlinelaw13_Program.calls (a0_0 : Int) (a0_1 : Int) (a0_2 : Int) (a0_3 : Bool) (a0_4 : Int) (a0_5 : Int) (a0_6 : Int) (a0_7 : Int) (a0_8 : Int) (a0_9 : Int) (a0_10 : Int) (r1 : Int) (r2 : Int) (r3 : Int) (r4 : Bool) (r5 : Int) (r6 : Int) (r7 : Int) (r8 : Int) (r9 : Int) (r10 : Int) (r11 : Int) (w : World) (h : weftlinelaw13_Program.f a0_0 a0_1 a0_2 a0_3 a0_4 a0_5 a0_6 a0_7 a0_8 a0_9 a0_10 = some (r1, r2, r3, r4, r5, r6, r7, r8, r9, r10, r11)) :
    Calls Try.prog 12 #[.agg #[.int .i64 a0_0, .int .i64 a0_1, .int .i64 a0_2, .bool a0_3, .int .i64 a0_4, .int .i64 a0_5, .int .i64 a0_6, .int .i64 a0_7, .int .i64 a0_8, .int .u32 a0_9, .int .i64 a0_10]] w fun e w' => e = .returned (.agg #[.int .i64 r1, .int .i64 r2, .int .i64 r3, .bool r4, .int .i64 r5, .int .i64 r6, .int .i64 r7, .int .i64 r8, .int .i64 r9, .int .u32 r10, .int .i64 r11]) ∧ Below w.heap.size w w' := by
  have hu29 := Try.underlying29
  have hu34 := Try.underlying34
  have hu23 := Try.underlying23
  have hu25 := Try.underlying25
  have HB := Aside0.mk (Below.refl w.heap.size w)
  have H : (some (a0_0, a0_1, a0_2, a0_3, a0_4, a0_5, a0_6, a0_7, a0_8, a0_9, a0_10)) = some (r1, r2, r3, r4, r5, r6, r7, r8, r9, r10, r11) := h
  clear h
  simp only [Option.some.injEq, Prod.mk.injEq] at H
  obtain ⟨rfl, rfl, rfl, rfl, rfl, rfl, rfl, rfl, rfl, rfl, rfl⟩ := H
  go_enter Try.func12, Try.ntmps12
  go_wp2_with (first | ((with_reducible refine gate_dst (N := 1) rfl ?_); refine box_event ?hg (N := 1) ?hd (cs := #[.int .i64 a0_0, .int .i64 a0_1, .int .i64 a0_2, .bool a0_3, .int .i64 a0_4, .int .i64 a0_5, .int .i64 a0_6, .int .i64 a0_7, .int .i64 a0_8, .int .u32 a0_9, .int .i64 a0_10]) (t := 29) ?hr ?_; (case hd => rfl); (case hg => rfl); (case hr => first | (go_simp; done) | (go_simp; rfl)); intro gb164 hg w2 hbox hb; have n0_ := Aside0.mk (below_step (by repeat (first | (with_reducible first | exact HB.out | apply below_alloc | apply pw_below_drewN | apply below_drew1) | exact HB.out)) hb); have n1_ := Aside0.mk (hbox); have n2_ := Aside0.mk ((by rw [hg]; exact (below_size (by repeat (first | (with_reducible first | exact HB.out | apply below_alloc | apply pw_below_drewN | apply below_drew1) | exact HB.out))) : w.heap.size ≤ gb164)); have n3_ := Aside0.mk ((by rw [hg]; exact (below_size (by repeat (first | (with_reducible first | exact HB.out | apply below_alloc | apply pw_below_drewN | apply below_drew1) | exact HB.out))) : w.heap.size ≤ gb164)); clear HB; have HB := n0_; have BK164 := n1_; have GW164 := n2_; have GE164 := n3_; clear n0_ n1_ n2_ n3_; clear hb hbox hg) | ((with_reducible refine gate_dst (N := 2) rfl ?_); refine box_event ?hg (N := 2) ?hd (cs := #[.int .i64 0, .int .i64 0, .int .i64 0, .bool false, .int .i64 0, .int .i64 0, .int .i64 0, .int .i64 0, .int .i64 0, .int .u32 0, .int .i64 0]) (t := 34) ?hr ?_; (case hd => rfl); (case hg => rfl); (case hr => first | (go_simp; done) | (go_simp; rfl)); intro gb165 hg w3 hbox hb; have n0_ := Aside0.mk (blk_below (g := gb164) (o := .cells #[.int .i64 a0_0, .int .i64 a0_1, .int .i64 a0_2, .bool a0_3, .int .i64 a0_4, .int .i64 a0_5, .int .i64 a0_6, .int .i64 a0_7, .int .i64 a0_8, .int .u32 a0_9, .int .i64 a0_10] 29 (0, 0)) (by (with_reducible repeat (first | refine blk_drewN ?_ _ | refine blk_drew ?_ | refine blk_alloc ?_ _)); exact BK164.out) hb); have n1_ := Aside0.mk (below_step (by repeat (first | (with_reducible first | exact HB.out | apply below_alloc | apply pw_below_drewN | apply below_drew1 | refine below_set ?_ GE164.out) | exact HB.out)) hb); have n2_ := Aside0.mk (hbox); have n3_ := Aside0.mk ((by rw [hg]; exact (below_size (by repeat (first | (with_reducible first | exact HB.out | apply below_alloc | apply pw_below_drewN | apply below_drew1 | refine below_set ?_ GE164.out) | exact HB.out))) : w.heap.size ≤ gb165)); have n4_ := Aside0.mk ((by rw [hg]; exact (below_size (by repeat (first | (with_reducible first | exact HB.out | apply below_alloc | apply pw_below_drewN | apply below_drew1 | refine below_set ?_ GE164.out) | exact HB.out))) : w.heap.size ≤ gb165)); have n5_ := Aside0.mk ((by rw [hg]; exact Nat.ne_of_lt (blk_lt (g := gb164) (o := .cells #[.int .i64 a0_0, .int .i64 a0_1, .int .i64 a0_2, .bool a0_3, .int .i64 a0_4, .int .i64 a0_5, .int .i64 a0_6, .int .i64 a0_7, .int .i64 a0_8, .int .u32 a0_9, .int .i64 a0_10] 29 (0, 0)) (by (with_reducible repeat (first | refine blk_drewN ?_ _ | refine blk_drew ?_ | refine blk_alloc ?_ _)); exact BK164.out)) : gb164 ≠ gb165)); have n6_ := Aside0.mk ((by rw [hg]; exact Nat.ne_of_gt (blk_lt (g := gb164) (o := .cells #[.int .i64 a0_0, .int .i64 a0_1, .int .i64 a0_2, .bool a0_3, .int .i64 a0_4, .int .i64 a0_5, .int .i64 a0_6, .int .i64 a0_7, .int .i64 a0_8, .int .u32 a0_9, .int .i64 a0_10] 29 (0, 0)) (by (with_reducible repeat (first | refine blk_drewN ?_ _ | refine blk_drew ?_ | refine blk_alloc ?_ _)); exact BK164.out)) : gb165 ≠ gb164)); clear BK164; clear HB; have BK164 := n0_; have HB := n1_; have BK165 := n2_; have GW165 := n3_; have GE165 := n4_; have NB164_165 := n5_; have NB165_164 := n6_; clear n0_ n1_ n2_ n3_ n4_ n5_ n6_; clear hb hbox hg; have hnb4 := NB164_165.out; have hnc4 := NB165_164.out; have hcz5_0 : w3.cell? ⟨gb164, 0, none⟩ = some (.int .i64 a0_0) := (blk_cell BK164.out 0).trans rfl; have hcz5_1 : w3.cell? ⟨gb164, 1, none⟩ = some (.int .i64 a0_1) := (blk_cell BK164.out 1).trans rfl; have hcz5_2 : w3.cell? ⟨gb164, 2, none⟩ = some (.int .i64 a0_2) := (blk_cell BK164.out 2).trans rfl; have hcz5_3 : w3.cell? ⟨gb164, 3, none⟩ = some (.bool a0_3) := (blk_cell BK164.out 3).trans rfl; have hcz5_4 : w3.cell? ⟨gb164, 4, none⟩ = some (.int .i64 a0_4) := (blk_cell BK164.out 4).trans rfl; have hcz5_5 : w3.cell? ⟨gb164, 5, none⟩ = some (.int .i64 a0_5) := (blk_cell BK164.out 5).trans rfl; have hcz5_6 : w3.cell? ⟨gb164, 6, none⟩ = some (.int .i64 a0_6) := (blk_cell BK164.out 6).trans rfl; have hcz5_7 : w3.cell? ⟨gb164, 7, none⟩ = some (.int .i64 a0_7) := (blk_cell BK164.out 7).trans rfl; have hcz5_8 : w3.cell? ⟨gb164, 8, none⟩ = some (.int .i64 a0_8) := (blk_cell BK164.out 8).trans rfl; have hcz5_9 : w3.cell? ⟨gb164, 9, none⟩ = some (.int .u32 a0_9) := (blk_cell BK164.out 9).trans rfl; have hcz5_10 : w3.cell? ⟨gb164, 10, none⟩ = some (.int .i64 a0_10) := (blk_cell BK164.out 10).trans rfl; have hfz5_0 := blk_frozen BK164.out 0; have hfz5_1 := blk_frozen BK164.out 1; have hfz5_2 := blk_frozen BK164.out 2; have hfz5_3 := blk_frozen BK164.out 3; have hfz5_4 := blk_frozen BK164.out 4; have hfz5_5 := blk_frozen BK164.out 5; have hfz5_6 := blk_frozen BK164.out 6; have hfz5_7 := blk_frozen BK164.out 7; have hfz5_8 := blk_frozen BK164.out 8; have hfz5_9 := blk_frozen BK164.out 9; have hfz5_10 := blk_frozen BK164.out 10; have hcz6_0 : w3.cell? ⟨gb165, 0, none⟩ = some (.int .i64 0) := (blk_cell BK165.out 0).trans rfl; have hcz6_1 : w3.cell? ⟨gb165, 1, none⟩ = some (.int .i64 0) := (blk_cell BK165.out 1).trans rfl; have hcz6_2 : w3.cell? ⟨gb165, 2, none⟩ = some (.int .i64 0) := (blk_cell BK165.out 2).trans rfl; have hcz6_3 : w3.cell? ⟨gb165, 3, none⟩ = some (.bool false) := (blk_cell BK165.out 3).trans rfl; have hcz6_4 : w3.cell? ⟨gb165, 4, none⟩ = some (.int .i64 0) := (blk_cell BK165.out 4).trans rfl; have hcz6_5 : w3.cell? ⟨gb165, 5, none⟩ = some (.int .i64 0) := (blk_cell BK165.out 5).trans rfl; have hcz6_6 : w3.cell? ⟨gb165, 6, none⟩ = some (.int .i64 0) := (blk_cell BK165.out 6).trans rfl; have hcz6_7 : w3.cell? ⟨gb165, 7, none⟩ = some (.int .i64 0) := (blk_cell BK165.out 7).trans rfl; have hcz6_8 : w3.cell? ⟨gb165, 8, none⟩ = some (.int .i64 0) := (blk_cell BK165.out 8).trans rfl; have hcz6_9 : w3.cell? ⟨gb165, 9, none⟩ = some (.int .u32 0) := (blk_cell BK165.out 9).trans rfl; have hcz6_10 : w3.cell? ⟨gb165, 10, none⟩ = some (.int .i64 0) := (blk_cell BK165.out 10).trans rfl; have hfz6_0 := blk_frozen BK165.out 0; have hfz6_1 := blk_frozen BK165.out 1; have hfz6_2 := blk_frozen BK165.out 2; have hfz6_3 := blk_frozen BK165.out 3; have hfz6_4 := blk_frozen BK165.out 4; have hfz6_5 := blk_frozen BK165.out 5; have hfz6_6 := blk_frozen BK165.out 6; have hfz6_7 := blk_frozen BK165.out 7; have hfz6_8 := blk_frozen BK165.out 8; have hfz6_9 := blk_frozen BK165.out 9; have hfz6_10 := blk_frozen BK165.out 10))
  refine bodyPost_ret (results_cell_row rfl _ _ gb165 34 #[.int .i64 a0_0, .int .i64 a0_1, .int .i64 a0_2, .bool a0_3, .int .i64 a0_4, .int .i64 a0_5, .int .i64 a0_6, .int .i64 a0_7, .int .i64 a0_8, .int .u32 a0_9, .int .i64 a0_10] (0, 0) _ rfl (by (with_reducible repeat (first | refine blk_drewN ?_ _ | refine blk_drew ?_ | refine blk_alloc ?_ _)); refine blk_put (cs := #[.int .i64 a0_0, .int .i64 a0_1, .int .i64 a0_2, .bool a0_3, .int .i64 a0_4, .int .i64 a0_5, .int .i64 a0_6, .int .i64 a0_7, .int .i64 a0_8, .int .u32 a0_9, .int .i64 0]) ?_ 10 _ rfl; (with_reducible repeat (first | refine blk_drewN ?_ _ | refine blk_drew ?_ | refine blk_alloc ?_ _)); refine blk_put (cs := #[.int .i64 a0_0, .int .i64 a0_1, .int .i64 a0_2, .bool a0_3, .int .i64 a0_4, .int .i64 a0_5, .int .i64 a0_6, .int .i64 a0_7, .int .i64 a0_8, .int .u32 0, .int .i64 0]) ?_ 9 _ rfl; (with_reducible repeat (first | refine blk_drewN ?_ _ | refine blk_drew ?_ | refine blk_alloc ?_ _)); refine blk_put (cs := #[.int .i64 a0_0, .int .i64 a0_1, .int .i64 a0_2, .bool a0_3, .int .i64 a0_4, .int .i64 a0_5, .int .i64 a0_6, .int .i64 a0_7, .int .i64 0, .int .u32 0, .int .i64 0]) ?_ 8 _ rfl; (with_reducible repeat (first | refine blk_drewN ?_ _ | refine blk_drew ?_ | refine blk_alloc ?_ _)); refine blk_put (cs := #[.int .i64 a0_0, .int .i64 a0_1, .int .i64 a0_2, .bool a0_3, .int .i64 a0_4, .int .i64 a0_5, .int .i64 a0_6, .int .i64 0, .int .i64 0, .int .u32 0, .int .i64 0]) ?_ 7 _ rfl; (with_reducible repeat (first | refine blk_drewN ?_ _ | refine blk_drew ?_ | refine blk_alloc ?_ _)); refine blk_put (cs := #[.int .i64 a0_0, .int .i64 a0_1, .int .i64 a0_2, .bool a0_3, .int .i64 a0_4, .int .i64 a0_5, .int .i64 0, .int .i64 0, .int .i64 0, .int .u32 0, .int .i64 0]) ?_ 6 _ rfl; (with_reducible repeat (first | refine blk_drewN ?_ _ | refine blk_drew ?_ | refine blk_alloc ?_ _)); refine blk_put (cs := #[.int .i64 a0_0, .int .i64 a0_1, .int .i64 a0_2, .bool a0_3, .int .i64 a0_4, .int .i64 0, .int .i64 0, .int .i64 0, .int .i64 0, .int .u32 0, .int .i64 0]) ?_ 5 _ rfl; (with_reducible repeat (first | refine blk_drewN ?_ _ | refine blk_drew ?_ | refine blk_alloc ?_ _)); refine blk_put (cs := #[.int .i64 a0_0, .int .i64 a0_1, .int .i64 a0_2, .bool a0_3, .int .i64 0, .int .i64 0, .int .i64 0, .int .i64 0, .int .i64 0, .int .u32 0, .int .i64 0]) ?_ 4 _ rfl; (with_reducible repeat (first | refine blk_drewN ?_ _ | refine blk_drew ?_ | refine blk_alloc ?_ _)); refine blk_put (cs := #[.int .i64 a0_0, .int .i64 a0_1, .int .i64 a0_2, .bool false, .int .i64 0, .int .i64 0, .int .i64 0, .int .i64 0, .int .i64 0, .int .u32 0, .int .i64 0]) ?_ 3 _ rfl; (with_reducible repeat (first | refine blk_drewN ?_ _ | refine blk_drew ?_ | refine blk_alloc ?_ _)); refine blk_put (cs := #[.int .i64 a0_0, .int .i64 a0_1, .int .i64 0, .bool false, .int .i64 0, .int .i64 0, .int .i64 0, .int .i64 0, .int .i64 0, .int .u32 0, .int .i64 0]) ?_ 2 _ rfl; (with_reducible repeat (first | refine blk_drewN ?_ _ | refine blk_drew ?_ | refine blk_alloc ?_ _)); refine blk_put (cs := #[.int .i64 a0_0, .int .i64 0, .int .i64 0, .bool false, .int .i64 0, .int .i64 0, .int .i64 0, .int .i64 0, .int .i64 0, .int .u32 0, .int .i64 0]) ?_ 1 _ rfl; (with_reducible repeat (first | refine blk_drewN ?_ _ | refine blk_drew ?_ | refine blk_alloc ?_ _)); refine blk_put (cs := #[.int .i64 0, .int .i64 0, .int .i64 0, .bool false, .int .i64 0, .int .i64 0, .int .i64 0, .int .i64 0, .int .i64 0, .int .u32 0, .int .i64 0]) ?_ 0 _ rfl; (with_reducible repeat (first | refine blk_drewN ?_ _ | refine blk_drew ?_ | refine blk_alloc ?_ _)); exact BK165.out) Try.underlying34 rfl (by kernel_rfl)) rfl ?_
  exact ⟨by first | rfl | (simp [errW_none, errW_some] <;> rfl) | (simp [*, errW_none, errW_some] <;> rfl), by repeat (first | (with_reducible first | exact HB.out | apply below_alloc | apply pw_below_drewN | apply below_drew1 | refine below_set ?_ GE164.out | refine below_set ?_ GE165.out) | exact HB.out)⟩

end Go.Proofs.Ytblooffiggciiaa.PPs
/- PPsx36 -/
namespace Go.Proofs.Ytblooffiggciiaa.PPs
open Go.RowKit Go.Proofs.YtblooffiggciiaaW.PrintWords Go.Proofs.YtblooffiggciiaaW.PrintLast Go.Proofs.YtblooffiggciiaaW.PrintMore
attribute [local go_sem] max2_int min2_int max_two min_two max_three min_three max_four min_four   -- for this text's walks alone
attribute [local go_sem] Go.Proofs.Ytblooffiggciiaa.Aid.isSome_setCell
def weftlinelaw14_Program.l0 : Nat → List (S29) → Int → Int → List (S34) → Int → Option ((List (S34)) × Int)
  | 0, _, _, _, _, _ => none
  | k + 1, x10, x11, x12, x222000, x222001 => if x12 < x11 then (if 0 ≤ x12 then (if x12 < (x10.length : Int) then ((weftlinelaw13_Program.f ((rd_T29 x10 x12).f0.f0) ((rd_T29 x10 x12).f0.f1) ((rd_T29 x10 x12).f0.f2) ((rd_T29 x10 x12).f0.f3) ((rd_T29 x10 x12).f1.f0) ((rd_T29 x10 x12).f1.f1) ((rd_T29 x10 x12).f1.f2) ((rd_T29 x10 x12).f2) ((rd_T29 x10 x12).f3) ((rd_T29 x10 x12).f4) ((rd_T29 x10 x12).f5)).bind fun bt224 => (if x222000.length < 1599289640401 then (weftlinelaw14_Program.l0 k x10 x11 (wrap64 (x12 + 1)) (x222000 ++ [(⟨(⟨bt224.1, bt224.2.1, bt224.2.2.1, bt224.2.2.2.1⟩ : S31), (⟨bt224.2.2.2.2.1, bt224.2.2.2.2.2.1, bt224.2.2.2.2.2.2.1⟩ : S32), bt224.2.2.2.2.2.2.2.1, bt224.2.2.2.2.2.2.2.2.1, bt224.2.2.2.2.2.2.2.2.2.1, bt224.2.2.2.2.2.2.2.2.2.2⟩ : S34)]) x222001) else (none))) else (none)) else (none)) else (some (x222000, x222001))
def weftlinelaw14_Program.f (k : Nat) (l0_0 : List (S29)) (a0_1 : Int) : Option ((List (S34)) × Int) := weftlinelaw14_Program.l0 k l0_0 (l0_0.length : Int) 0 ([] : List (S34)) a0_1
def weftlinelaw14_Program.T5 : Bool × List (List Nat × List Nat) := (true, [([], []), ([0], [0]), ([], []), ([2], [2]), ([3], [3]), ([1, 4, 3], [1, 4]), ([0, 1, 2, 3, 4, 5], []), ([6, 5, 5, 0, 1, 2, 3, 4, 5], [5, 6])])
def weftlinelaw14_Program.B5 : List Nat := [0, 1, 0, 4, 12, 31, 63, 127]
theorem weftlinelaw14_Program.tab5 : rtab .any (opsOf Try.f36 5) = weftlinelaw14_Program.T5 := by kernel_rfl
theorem weftlinelaw14_Program.bits5 : waitsOk weftlinelaw14_Program.T5.2 weftlinelaw14_Program.B5 = true := by kernel_rfl
set_option maxHeartbeats 8000000 in
set_option maxRecDepth 100000 in
theorem weftlinelaw14_Program.calls (k : Nat) (A0_0 : Option Addr) (c0_0 : Nat) (l0_0 : List (S29)) (a0_1 : Int) (r1 : List (S34)) (r2 : Int) (w : World) (hr0_0 : Kd.C k29 w A0_0 l0_0.length l0_0) (hc0_0 : l0_0.length ≤ c0_0) (h : weftlinelaw14_Program.f k l0_0 a0_1 = some (r1, r2)) :
    Calls Try.prog 36 #[.agg #[.slice A0_0 l0_0.length c0_0, .int .i64 a0_1]] w fun e w' => ∃ v0_ : Value, e = .returned (.agg #[v0_, .int .i64 r2]) ∧ Kd.R k34 34 w' w.heap.size (fun _ => True) v0_ r1 ∧ Below w.heap.size w w' := by
  have hu66 := Try.underlying66
  have hu70 := Try.underlying70
  have hu29 := Try.underlying29
  have HR0_0 := Aside0.mk hr0_0
  have HC0_0 := Aside0.mk hc0_0
  clear hr0_0 hc0_0
  have HB := Aside0.mk (Below.refl w.heap.size w)
  have H : (weftlinelaw14_Program.l0 k l0_0 (l0_0.length : Int) 0 ([] : List (S34)) a0_1) = some (r1, r2) := h
  clear h
  have H' := Aside0.mk H
  clear H
  go_enter Try.func36, Try.ntmps36
  go_wp2_with (first | ((with_reducible refine gate_dst (N := 1) rfl ?_); refine box_event ?hg (N := 1) ?hd (cs := #[.slice A0_0 l0_0.length c0_0, .int .i64 a0_1]) (t := 66) ?hr ?_; (case hd => rfl); (case hg => rfl); (case hr => first | (go_simp; done) | (go_simp; rfl)); intro gb219 hg w2 hbox hb; have n0_ := Aside0.mk (below_step (by repeat (first | (with_reducible first | exact HB.out | apply below_alloc | apply pw_below_drewN | apply below_drew1) | exact HB.out)) hb); have n1_ := Aside0.mk (hbox); have n2_ := Aside0.mk ((by rw [hg]; exact (below_size (by repeat (first | (with_reducible first | exact HB.out | apply below_alloc | apply pw_below_drewN | apply below_drew1) | exact HB.out))) : w.heap.size ≤ gb219)); have n3_ := Aside0.mk ((by rw [hg]; exact (below_size (by repeat (first | (with_reducible first | exact HB.out | apply below_alloc | apply pw_below_drewN | apply below_drew1) | exact HB.out))) : w.heap.size ≤ gb219)); clear HB; have HB := n0_; have BK219 := n1_; have GW219 := n2_; have GE219 := n3_; clear n0_ n1_ n2_ n3_; clear hb hbox hg) | ((with_reducible refine gate_dst (N := 2) rfl ?_); refine box_event ?hg (N := 2) ?hd (cs := #[.slice none 0 0, .int .i64 0]) (t := 70) ?hr ?_; (case hd => rfl); (case hg => rfl); (case hr => first | (go_simp; done) | (go_simp; rfl)); intro gb220 hg w3 hbox hb; have n0_ := Aside0.mk (blk_below (g := gb219) (o := .cells #[.slice A0_0 l0_0.length c0_0, .int .i64 a0_1] 66 (0, 0)) (by (with_reducible repeat (first | refine blk_drewN ?_ _ | refine blk_drew ?_ | refine blk_alloc ?_ _)); exact BK219.out) hb); have n1_ := Aside0.mk (below_step (by repeat (first | (with_reducible first | exact HB.out | apply below_alloc | apply pw_below_drewN | apply below_drew1 | refine below_set ?_ GE219.out) | exact HB.out)) hb); have n2_ := Aside0.mk (hbox); have n3_ := Aside0.mk ((by rw [hg]; exact (below_size (by repeat (first | (with_reducible first | exact HB.out | apply below_alloc | apply pw_below_drewN | apply below_drew1 | refine below_set ?_ GE219.out) | exact HB.out))) : w.heap.size ≤ gb220)); have n4_ := Aside0.mk ((by rw [hg]; exact (below_size (by repeat (first | (with_reducible first | exact HB.out | apply below_alloc | apply pw_below_drewN | apply below_drew1 | refine below_set ?_ GE219.out) | exact HB.out))) : w.heap.size ≤ gb220)); have n5_ := Aside0.mk ((by rw [hg]; exact Nat.ne_of_lt (blk_lt (g := gb219) (o := .cells #[.slice A0_0 l0_0.length c0_0, .int .i64 a0_1] 66 (0, 0)) (by (with_reducible repeat (first | refine blk_drewN ?_ _ | refine blk_drew ?_ | refine blk_alloc ?_ _)); exact BK219.out)) : gb219 ≠ gb220)); have n6_ := Aside0.mk ((by rw [hg]; exact Nat.ne_of_gt (blk_lt (g := gb219) (o := .cells #[.slice A0_0 l0_0.length c0_0, .int .i64 a0_1] 66 (0, 0)) (by (with_reducible repeat (first | refine blk_drewN ?_ _ | refine blk_drew ?_ | refine blk_alloc ?_ _)); exact BK219.out)) : gb220 ≠ gb219)); clear BK219; clear HB; have BK219 := n0_; have HB := n1_; have BK220 := n2_; have GW220 := n3_; have GE220 := n4_; have NB219_220 := n5_; have NB220_219 := n6_; clear n0_ n1_ n2_ n3_ n4_ n5_ n6_; clear hb hbox hg; have hnb4 := NB219_220.out; have hnc4 := NB220_219.out; have hcz5_0 : w3.cell? ⟨gb219, 0, none⟩ = some (.slice A0_0 l0_0.length c0_0) := (blk_cell BK219.out 0).trans rfl; have hcz5_1 : w3.cell? ⟨gb219, 1, none⟩ = some (.int .i64 a0_1) := (blk_cell BK219.out 1).trans rfl; have hfz5_0 := blk_frozen BK219.out 0; have hfz5_1 := blk_frozen BK219.out 1) | ((with_reducible refine gate_dst (N := 3) rfl ?_); refine box_event ?hg (N := 3) ?hd (cs := #[.slice none 0 0, .int .i64 0]) (t := 70) ?hr ?_; (case hd => rfl); (case hg => rfl); (case hr => first | (go_simp; done) | (go_simp; rfl)); intro gb221 hg w6 hbox hb; have n0_ := Aside0.mk (blk_below (g := gb219) (o := .cells #[.slice A0_0 l0_0.length c0_0, .int .i64 a0_1] 66 (0, 0)) (by (with_reducible repeat (first | refine blk_drewN ?_ _ | refine blk_drew ?_ | refine blk_alloc ?_ _)); exact BK219.out) hb); have n1_ := Aside0.mk (blk_below (g := gb220) (o := .cells #[.slice none 0 0, .int .i64 0] 70 (0, 0)) (by (with_reducible repeat (first | refine blk_drewN ?_ _ | refine blk_drew ?_ | refine blk_alloc ?_ _)); exact BK220.out) hb); have n2_ := Aside0.mk (below_step (by repeat (first | (with_reducible first | exact HB.out | apply below_alloc | apply pw_below_drewN | apply below_drew1 | refine below_set ?_ GE219.out | refine below_set ?_ GE220.out) | exact HB.out)) hb); have n3_ := Aside0.mk (hbox); have n4_ := Aside0.mk ((by rw [hg]; exact (below_size (by repeat (first | (with_reducible first | exact HB.out | apply below_alloc | apply pw_below_drewN | apply below_drew1 | refine below_set ?_ GE219.out | refine below_set ?_ GE220.out) | exact HB.out))) : w.heap.size ≤ gb221)); have n5_ := Aside0.mk ((by rw [hg]; exact (below_size (by repeat (first | (with_reducible first | exact HB.out | apply below_alloc | apply pw_below_drewN | apply below_drew1 | refine below_set ?_ GE219.out | refine below_set ?_ GE220.out) | exact HB.out))) : w.heap.size ≤ gb221)); have n6_ := Aside0.mk ((by rw [hg]; exact Nat.ne_of_lt (blk_lt (g := gb219) (o := .cells #[.slice A0_0 l0_0.length c0_0, .int .i64 a0_1] 66 (0, 0)) (by (with_reducible repeat (first | refine blk_drewN ?_ _ | refine blk_drew ?_ | refine blk_alloc ?_ _)); exact BK219.out)) : gb219 ≠ gb221)); have n7_ := Aside0.mk ((by rw [hg]; exact Nat.ne_of_gt (blk_lt (g := gb219) (o := .cells #[.slice A0_0 l0_0.length c0_0, .int .i64 a0_1] 66 (0, 0)) (by (with_reducible repeat (first | refine blk_drewN ?_ _ | refine blk_drew ?_ | refine blk_alloc ?_ _)); exact BK219.out)) : gb221 ≠ gb219)); have n8_ := Aside0.mk ((by rw [hg]; exact Nat.ne_of_lt (blk_lt (g := gb220) (o := .cells #[.slice none 0 0, .int .i64 0] 70 (0, 0)) (by (with_reducible repeat (first | refine blk_drewN ?_ _ | refine blk_drew ?_ | refine blk_alloc ?_ _)); exact BK220.out)) : gb220 ≠ gb221)); have n9_ := Aside0.mk ((by rw [hg]; exact Nat.ne_of_gt (blk_lt (g := gb220) (o := .cells #[.slice none 0 0, .int .i64 0] 70 (0, 0)) (by (with_reducible repeat (first | refine blk_drewN ?_ _ | refine blk_drew ?_ | refine blk_alloc ?_ _)); exact BK220.out)) : gb221 ≠ gb220)); clear BK219; clear BK220; clear HB; have BK219 := n0_; have BK220 := n1_; have HB := n2_; have BK221 := n3_; have GW221 := n4_; have GE221 := n5_; have NB219_221 := n6_; have NB221_219 := n7_; have NB220_221 := n8_; have NB221_220 := n9_; clear n0_ n1_ n2_ n3_ n4_ n5_ n6_ n7_ n8_ n9_; clear hb hbox hg; have hnb7 := NB221_219.out; have hnc7 := NB219_221.out; have hnb8 := NB221_220.out; have hnc8 := NB220_221.out; have hcz9_0 : w6.cell? ⟨gb221, 0, none⟩ = some (.slice none 0 0) := (blk_cell BK221.out 0).trans rfl; have hcz9_1 : w6.cell? ⟨gb221, 1, none⟩ = some (.int .i64 0) := (blk_cell BK221.out 1).trans rfl; have hfz9_0 := blk_frozen BK221.out 0; have hfz9_1 := blk_frozen BK221.out 1; have hcz10_0 : w6.cell? ⟨gb219, 0, none⟩ = some (.slice A0_0 l0_0.length c0_0) := (blk_cell BK219.out 0).trans rfl; have hcz10_1 : w6.cell? ⟨gb219, 1, none⟩ = some (.int .i64 a0_1) := (blk_cell BK219.out 1).trans rfl; have hfz10_0 := blk_frozen BK219.out 0; have hfz10_1 := blk_frozen BK219.out 1))
  go_loopg [12] k (fun kq v12 w' => ∃ (x12_1 : Int) (x222000_1 : List (S34)) (u222000 : Value), v12 = .int .i64 x12_1 ∧ Aside0 (weftlinelaw14_Program.l0 kq l0_0 (l0_0.length : Int) x12_1 x222000_1 a0_1 = some (r1, r2)) ∧ Aside0 (kq ≤ k) ∧ Aside0 (Kd.R k34 34 w' w.heap.size (fun _ => True) u222000 x222000_1) ∧ Aside0 (w'.heap[gb219]? = some (.cells #[(.slice A0_0 l0_0.length c0_0), .int .i64 a0_1] 66 (0, 0))) ∧ Aside0 (w'.heap[gb220]? = some (.cells #[(.slice none 0 0), .int .i64 0] 70 (0, 0))) ∧ Aside0 (w'.heap[gb221]? = some (.cells #[u222000, .int .i64 a0_1] 70 (0, 0))) ∧ Aside0 (Below w.heap.size w w'))
  case atStart => exact ⟨(0), (([] : List (S34))), (.slice none 0 0), (by first | rfl | (simp; done) | (simp [*]; done)), H', ⟨Nat.le_refl _⟩, ⟨by first | exact Kd.R_nil _ _ _ _ _ | exact Kd.N_nil _ _ _ _ _ | exact Kd.V_nil _ _ _ _ _ | exact Kd.Q_nil _ _ _ _ _ | exact Kd.S_nil _ _ _ _ _⟩, ⟨by (with_reducible repeat (first | refine blk_drewN ?_ _ | refine blk_drew ?_ | refine blk_alloc ?_ _)); refine blk_far ?_ NB219_221.out _; (with_reducible repeat (first | refine blk_drewN ?_ _ | refine blk_drew ?_ | refine blk_alloc ?_ _)); refine blk_far ?_ NB219_221.out _; (with_reducible repeat (first | refine blk_drewN ?_ _ | refine blk_drew ?_ | refine blk_alloc ?_ _)); exact BK219.out⟩, ⟨by (with_reducible repeat (first | refine blk_drewN ?_ _ | refine blk_drew ?_ | refine blk_alloc ?_ _)); refine blk_far ?_ NB220_221.out _; (with_reducible repeat (first | refine blk_drewN ?_ _ | refine blk_drew ?_ | refine blk_alloc ?_ _)); refine blk_far ?_ NB220_221.out _; (with_reducible repeat (first | refine blk_drewN ?_ _ | refine blk_drew ?_ | refine blk_alloc ?_ _)); exact BK220.out⟩, ⟨by (with_reducible repeat (first | refine blk_drewN ?_ _ | refine blk_drew ?_ | refine blk_alloc ?_ _)); refine blk_put (cs := #[.slice none 0 0, .int .i64 0]) ?_ 1 _ rfl; (with_reducible repeat (first | refine blk_drewN ?_ _ | refine blk_drew ?_ | refine blk_alloc ?_ _)); refine blk_put (cs := #[.slice none 0 0, .int .i64 0]) ?_ 0 _ rfl; (with_reducible repeat (first | refine blk_drewN ?_ _ | refine blk_drew ?_ | refine blk_alloc ?_ _)); exact BK221.out⟩, ⟨by repeat (first | (with_reducible first | exact HB.out | apply below_alloc | apply pw_below_drewN | apply below_drew1 | refine below_set ?_ GE219.out | refine below_set ?_ GE220.out | refine below_set ?_ GE221.out) | exact HB.out)⟩⟩
  case round =>
    clear H'
    try clear p2
    try clear c3
    try clear c4
    try clear c7
    try clear c8
    try clear hcz10_0
    try clear hcz10_1
    try clear hcz5_0
    try clear hcz5_1
    try clear hcz9_0
    try clear hcz9_1
    try clear hfz10_0
    try clear hfz10_1
    try clear hfz5_0
    try clear hfz5_1
    try clear hfz9_0
    try clear hfz9_1
    obtain ⟨x12_1, x222000_1, u222000, rfl, HA, HK1, HO_222000, BK219, BK220, BK221, HB⟩ := hrel
    cases gk with
    | zero => exact absurd HA.out (by simp [weftlinelaw14_Program.l0])
    | succ k1 =>
      have H := HA.out
      clear HA
      simp only [weftlinelaw14_Program.l0] at H
      by_cases c11 : x12_1 < (l0_0.length : Int)
      · rw [if_pos c11] at H
        have c11b0 : decide (x12_1 < (l0_0.length : Int)) = true := decide_eq_true c11
        clear c11
        by_cases c12 : 0 ≤ x12_1
        · rw [if_pos c12] at H
          have c12b0 : decide (0 ≤ x12_1) = true := decide_eq_true c12
          clear c12
          by_cases c13 : x12_1 < (l0_0.length : Int)
          · rw [if_pos c13] at H
            have c13b0 : decide (x12_1 < (l0_0.length : Int)) = true := decide_eq_true c13
            clear c13
            replace H := Option.bind_eq_some_iff.mp H
            obtain ⟨⟨t224, t225, t226, t227, t228, t229, t230, t231, t232, t233, t234⟩, A140, H⟩ := H
            replace H : (if x222000_1.length < 1599289640401 then (weftlinelaw14_Program.l0 k1 l0_0 (l0_0.length : Int) (wrap64 (x12_1 + 1)) (x222000_1 ++ [(⟨(⟨t224, t225, t226, t227⟩ : S31), (⟨t228, t229, t230⟩ : S32), t231, t232, t233, t234⟩ : S34)]) a0_1) else (none)) = some (r1, r2) := H
            have A14 := Aside0.mk A140
            clear A140
            by_cases c15 : x222000_1.length < 1599289640401
            · rw [if_pos c15] at H
              have LMc15 := Aside0.mk c15
              clear c15
              obtain ⟨y235, hy235⟩ : ∃ y_ : List (S34), y_ = (x222000_1 ++ [(⟨(⟨t224, t225, t226, t227⟩ : S31), (⟨t228, t229, t230⟩ : S32), t231, t232, t233, t234⟩ : S34)]) := ⟨_, rfl⟩
              replace H : (weftlinelaw14_Program.l0 k1 l0_0 (l0_0.length : Int) (wrap64 (x12_1 + 1)) y235 a0_1) = some (r1, r2) := by first | (rw [hy235]; with_reducible exact H) | (have H2_ := (Option.bind_some _ _).symm.trans H; rw [hy235]; with_reducible exact H2_) | (have H2_ := (Option.bind_some _ _).symm.trans H; with_reducible exact H2_) | with_reducible exact H | (rw [hy235]; exact H) | exact H
              have Ny235 := Aside0.mk hy235
              clear hy235
              have H' := Aside0.mk H
              clear H
              have p222 : 0 ≤ (x12_1 : Int) := of_decide_eq_true (by first | (with_reducible assumption) | assumption)
              have q222 : x12_1 < (l0_0.length : Int) := of_decide_eq_true (by first | (with_reducible assumption) | assumption)
              obtain ⟨ad222, e222, hx222_0, hx222_1, hx222_2, hx222_3, hx222_4, hx222_5, hx222_6, hx222_7, hx222_8, hx222_9, hx222_10⟩ := at_T29 HR0_0.out x12_1 p222 q222
              cases e222
              replace hx222_0 := (HB.out.cell (World.block_lt_of_cell? w _ hx222_0)).trans hx222_0
              replace hx222_1 := (HB.out.cell (World.block_lt_of_cell? w _ hx222_1)).trans hx222_1
              replace hx222_2 := (HB.out.cell (World.block_lt_of_cell? w _ hx222_2)).trans hx222_2
              replace hx222_3 := (HB.out.cell (World.block_lt_of_cell? w _ hx222_3)).trans hx222_3
              replace hx222_4 := (HB.out.cell (World.block_lt_of_cell? w _ hx222_4)).trans hx222_4
              replace hx222_5 := (HB.out.cell (World.block_lt_of_cell? w _ hx222_5)).trans hx222_5
              replace hx222_6 := (HB.out.cell (World.block_lt_of_cell? w _ hx222_6)).trans hx222_6
              replace hx222_7 := (HB.out.cell (World.block_lt_of_cell? w _ hx222_7)).trans hx222_7
              replace hx222_8 := (HB.out.cell (World.block_lt_of_cell? w _ hx222_8)).trans hx222_8
              replace hx222_9 := (HB.out.cell (World.block_lt_of_cell? w _ hx222_9)).trans hx222_9
              replace hx222_10 := (HB.out.cell (World.block_lt_of_cell? w _ hx222_10)).trans hx222_10
              replace p222 := eq_true p222
              replace q222 := eq_true q222
              try go_wp2_with (first | ((with_reducible refine gate_dst (N := 5) rfl ?_); refine box_event ?hg (N := 5) ?hd (cs := #[.int .i64 0, .int .i64 0, .int .i64 0, .bool false, .int .i64 0, .int .i64 0, .int .i64 0, .int .i64 0, .int .i64 0, .int .u32 0, .int .i64 0]) (t := 29) ?hr ?_; (case hd => rfl); (case hg => rfl); (case hr => first | (go_simp; done) | (go_simp; rfl)); intro gb223 hg w16 hbox hb; have n0_ := Aside0.mk (Kd.R_below (by (with_reducible repeat (first | apply Kd.R_alloc | apply Kd.R_drewN | apply Kd.R_drew)); exact HO_222000.out) hb); have n1_ := Aside0.mk (blk_below (g := gb219) (o := .cells #[.slice (some ad222) l0_0.length c0_0, .int .i64 a0_1] 66 (0, 0)) (by (with_reducible repeat (first | refine blk_drewN ?_ _ | refine blk_drew ?_ | refine blk_alloc ?_ _)); exact BK219.out) hb); have n2_ := Aside0.mk (blk_below (g := gb220) (o := .cells #[.slice none 0 0, .int .i64 0] 70 (0, 0)) (by (with_reducible repeat (first | refine blk_drewN ?_ _ | refine blk_drew ?_ | refine blk_alloc ?_ _)); exact BK220.out) hb); have n3_ := Aside0.mk (blk_below (g := gb221) (o := .cells #[u222000, .int .i64 a0_1] 70 (0, 0)) (by (with_reducible repeat (first | refine blk_drewN ?_ _ | refine blk_drew ?_ | refine blk_alloc ?_ _)); exact BK221.out) hb); have n4_ := Aside0.mk (below_step (by repeat (first | (with_reducible first | exact HB.out | apply below_alloc | apply pw_below_drewN | apply below_drew1 | refine below_set ?_ GE219.out | refine below_set ?_ GE220.out | refine below_set ?_ GE221.out) | exact HB.out)) hb); have n5_ := Aside0.mk (hbox); have n6_ := Aside0.mk ((by rw [hg]; exact (below_size (by repeat (first | (with_reducible first | exact HB.out | apply below_alloc | apply pw_below_drewN | apply below_drew1 | refine below_set ?_ GE219.out | refine below_set ?_ GE220.out | refine below_set ?_ GE221.out) | exact HB.out))) : w.heap.size ≤ gb223)); have n7_ := Aside0.mk ((by rw [hg]; exact (below_size (by repeat (first | (with_reducible first | exact HB.out | apply below_alloc | apply pw_below_drewN | apply below_drew1 | refine below_set ?_ GE219.out | refine below_set ?_ GE220.out | refine below_set ?_ GE221.out) | exact HB.out))) : w.heap.size ≤ gb223)); have n8_ := Aside0.mk ((by rw [hg]; exact Nat.ne_of_lt (blk_lt (g := gb219) (o := .cells #[.slice (some ad222) l0_0.length c0_0, .int .i64 a0_1] 66 (0, 0)) (by (with_reducible repeat (first | refine blk_drewN ?_ _ | refine blk_drew ?_ | refine blk_alloc ?_ _)); exact BK219.out)) : gb219 ≠ gb223)); have n9_ := Aside0.mk ((by rw [hg]; exact Nat.ne_of_gt (blk_lt (g := gb219) (o := .cells #[.slice (some ad222) l0_0.length c0_0, .int .i64 a0_1] 66 (0, 0)) (by (with_reducible repeat (first | refine blk_drewN ?_ _ | refine blk_drew ?_ | refine blk_alloc ?_ _)); exact BK219.out)) : gb223 ≠ gb219)); have n10_ := Aside0.mk ((by rw [hg]; exact Nat.ne_of_lt (blk_lt (g := gb220) (o := .cells #[.slice none 0 0, .int .i64 0] 70 (0, 0)) (by (with_reducible repeat (first | refine blk_drewN ?_ _ | refine blk_drew ?_ | refine blk_alloc ?_ _)); exact BK220.out)) : gb220 ≠ gb223)); have n11_ := Aside0.mk ((by rw [hg]; exact Nat.ne_of_gt (blk_lt (g := gb220) (o := .cells #[.slice none 0 0, .int .i64 0] 70 (0, 0)) (by (with_reducible repeat (first | refine blk_drewN ?_ _ | refine blk_drew ?_ | refine blk_alloc ?_ _)); exact BK220.out)) : gb223 ≠ gb220)); have n12_ := Aside0.mk ((by rw [hg]; exact Nat.ne_of_lt (blk_lt (g := gb221) (o := .cells #[u222000, .int .i64 a0_1] 70 (0, 0)) (by (with_reducible repeat (first | refine blk_drewN ?_ _ | refine blk_drew ?_ | refine blk_alloc ?_ _)); exact BK221.out)) : gb221 ≠ gb223)); have n13_ := Aside0.mk ((by rw [hg]; exact Nat.ne_of_gt (blk_lt (g := gb221) (o := .cells #[u222000, .int .i64 a0_1] 70 (0, 0)) (by (with_reducible repeat (first | refine blk_drewN ?_ _ | refine blk_drew ?_ | refine blk_alloc ?_ _)); exact BK221.out)) : gb223 ≠ gb221)); clear HO_222000; clear BK219; clear BK220; clear BK221; clear HB; have HO_222000 := n0_; have BK219 := n1_; have BK220 := n2_; have BK221 := n3_; have HB := n4_; have BK223 := n5_; have GW223 := n6_; have GE223 := n7_; have NB219_223 := n8_; have NB223_219 := n9_; have NB220_223 := n10_; have NB223_220 := n11_; have NB221_223 := n12_; have NB223_221 := n13_; clear n0_ n1_ n2_ n3_ n4_ n5_ n6_ n7_ n8_ n9_ n10_ n11_ n12_ n13_; clear hb hbox hg; have hnb17 := NB223_219.out; have hnc17 := NB219_223.out; have hnb18 := NB223_220.out; have hnc18 := NB220_223.out; have hnb19 := NB223_221.out; have hnc19 := NB221_223.out; have hcz20_0 : w16.cell? ⟨gb223, 0, none⟩ = some (.int .i64 0) := (blk_cell BK223.out 0).trans rfl; have hcz20_1 : w16.cell? ⟨gb223, 1, none⟩ = some (.int .i64 0) := (blk_cell BK223.out 1).trans rfl; have hcz20_2 : w16.cell? ⟨gb223, 2, none⟩ = some (.int .i64 0) := (blk_cell BK223.out 2).trans rfl; have hcz20_3 : w16.cell? ⟨gb223, 3, none⟩ = some (.bool false) := (blk_cell BK223.out 3).trans rfl; have hcz20_4 : w16.cell? ⟨gb223, 4, none⟩ = some (.int .i64 0) := (blk_cell BK223.out 4).trans rfl; have hcz20_5 : w16.cell? ⟨gb223, 5, none⟩ = some (.int .i64 0) := (blk_cell BK223.out 5).trans rfl; have hcz20_6 : w16.cell? ⟨gb223, 6, none⟩ = some (.int .i64 0) := (blk_cell BK223.out 6).trans rfl; have hcz20_7 : w16.cell? ⟨gb223, 7, none⟩ = some (.int .i64 0) := (blk_cell BK223.out 7).trans rfl; have hcz20_8 : w16.cell? ⟨gb223, 8, none⟩ = some (.int .i64 0) := (blk_cell BK223.out 8).trans rfl; have hcz20_9 : w16.cell? ⟨gb223, 9, none⟩ = some (.int .u32 0) := (blk_cell BK223.out 9).trans rfl; have hcz20_10 : w16.cell? ⟨gb223, 10, none⟩ = some (.int .i64 0) := (blk_cell BK223.out 10).trans rfl; have hfz20_0 := blk_frozen BK223.out 0; have hfz20_1 := blk_frozen BK223.out 1; have hfz20_2 := blk_frozen BK223.out 2; have hfz20_3 := blk_frozen BK223.out 3; have hfz20_4 := blk_frozen BK223.out 4; have hfz20_5 := blk_frozen BK223.out 5; have hfz20_6 := blk_frozen BK223.out 6; have hfz20_7 := blk_frozen BK223.out 7; have hfz20_8 := blk_frozen BK223.out 8; have hfz20_9 := blk_frozen BK223.out 9; have hfz20_10 := blk_frozen BK223.out 10))
              have n0_ : Aside0 (Kd.R k34 34 (((((((((((w16.setCell ⟨gb223, 0, none⟩ (.int .i64 ((rd_T29 l0_0 x12_1).f0.f0))).setCell ⟨gb223, 1, none⟩ (.int .i64 ((rd_T29 l0_0 x12_1).f0.f1))).setCell ⟨gb223, 2, none⟩ (.int .i64 ((rd_T29 l0_0 x12_1).f0.f2))).setCell ⟨gb223, 3, none⟩ (.bool ((rd_T29 l0_0 x12_1).f0.f3))).setCell ⟨gb223, 4, none⟩ (.int .i64 ((rd_T29 l0_0 x12_1).f1.f0))).setCell ⟨gb223, 5, none⟩ (.int .i64 ((rd_T29 l0_0 x12_1).f1.f1))).setCell ⟨gb223, 6, none⟩ (.int .i64 ((rd_T29 l0_0 x12_1).f1.f2))).setCell ⟨gb223, 7, none⟩ (.int .i64 ((rd_T29 l0_0 x12_1).f2))).setCell ⟨gb223, 8, none⟩ (.int .i64 ((rd_T29 l0_0 x12_1).f3))).setCell ⟨gb223, 9, none⟩ (.int .u32 ((rd_T29 l0_0 x12_1).f4))).setCell ⟨gb223, 10, none⟩ (.int .i64 ((rd_T29 l0_0 x12_1).f5))) w.heap.size (fun _ => True) u222000 x222000_1) := ⟨by (with_reducible repeat (first | apply Kd.R_alloc | apply Kd.R_drewN | apply Kd.R_drew)); exact Kd.R_mono (Kd.R_far (p := ⟨gb223, 10, none⟩) (Kd.R_far (p := ⟨gb223, 9, none⟩) (Kd.R_far (p := ⟨gb223, 8, none⟩) (Kd.R_far (p := ⟨gb223, 7, none⟩) (Kd.R_far (p := ⟨gb223, 6, none⟩) (Kd.R_far (p := ⟨gb223, 5, none⟩) (Kd.R_far (p := ⟨gb223, 4, none⟩) (Kd.R_far (p := ⟨gb223, 3, none⟩) (Kd.R_far (p := ⟨gb223, 2, none⟩) (Kd.R_far (p := ⟨gb223, 1, none⟩) (Kd.R_far (p := ⟨gb223, 0, none⟩) (Kd.R_types HO_222000.out BK223.out (by decide)) (fun _ hk => hk.2) (.int .i64 ((rd_T29 l0_0 x12_1).f0.f0))) (fun _ hk => hk.2) (.int .i64 ((rd_T29 l0_0 x12_1).f0.f1))) (fun _ hk => hk.2) (.int .i64 ((rd_T29 l0_0 x12_1).f0.f2))) (fun _ hk => hk.2) (.bool ((rd_T29 l0_0 x12_1).f0.f3))) (fun _ hk => hk.2) (.int .i64 ((rd_T29 l0_0 x12_1).f1.f0))) (fun _ hk => hk.2) (.int .i64 ((rd_T29 l0_0 x12_1).f1.f1))) (fun _ hk => hk.2) (.int .i64 ((rd_T29 l0_0 x12_1).f1.f2))) (fun _ hk => hk.2) (.int .i64 ((rd_T29 l0_0 x12_1).f2))) (fun _ hk => hk.2) (.int .i64 ((rd_T29 l0_0 x12_1).f3))) (fun _ hk => hk.2) (.int .u32 ((rd_T29 l0_0 x12_1).f4))) (fun _ hk => hk.2) (.int .i64 ((rd_T29 l0_0 x12_1).f5))) (fun _ hk => trivial)⟩
              have n1_ : Aside0 ((((((((((((w16.setCell ⟨gb223, 0, none⟩ (.int .i64 ((rd_T29 l0_0 x12_1).f0.f0))).setCell ⟨gb223, 1, none⟩ (.int .i64 ((rd_T29 l0_0 x12_1).f0.f1))).setCell ⟨gb223, 2, none⟩ (.int .i64 ((rd_T29 l0_0 x12_1).f0.f2))).setCell ⟨gb223, 3, none⟩ (.bool ((rd_T29 l0_0 x12_1).f0.f3))).setCell ⟨gb223, 4, none⟩ (.int .i64 ((rd_T29 l0_0 x12_1).f1.f0))).setCell ⟨gb223, 5, none⟩ (.int .i64 ((rd_T29 l0_0 x12_1).f1.f1))).setCell ⟨gb223, 6, none⟩ (.int .i64 ((rd_T29 l0_0 x12_1).f1.f2))).setCell ⟨gb223, 7, none⟩ (.int .i64 ((rd_T29 l0_0 x12_1).f2))).setCell ⟨gb223, 8, none⟩ (.int .i64 ((rd_T29 l0_0 x12_1).f3))).setCell ⟨gb223, 9, none⟩ (.int .u32 ((rd_T29 l0_0 x12_1).f4))).setCell ⟨gb223, 10, none⟩ (.int .i64 ((rd_T29 l0_0 x12_1).f5))).heap[gb219]? = some (.cells #[.slice (some ad222) l0_0.length c0_0, .int .i64 a0_1] 66 (0, 0))) := ⟨by (with_reducible repeat (first | refine blk_drewN ?_ _ | refine blk_drew ?_ | refine blk_alloc ?_ _)); refine blk_far ?_ NB219_223.out _; (with_reducible repeat (first | refine blk_drewN ?_ _ | refine blk_drew ?_ | refine blk_alloc ?_ _)); refine blk_far ?_ NB219_223.out _; (with_reducible repeat (first | refine blk_drewN ?_ _ | refine blk_drew ?_ | refine blk_alloc ?_ _)); refine blk_far ?_ NB219_223.out _; (with_reducible repeat (first | refine blk_drewN ?_ _ | refine blk_drew ?_ | refine blk_alloc ?_ _)); refine blk_far ?_ NB219_223.out _; (with_reducible repeat (first | refine blk_drewN ?_ _ | refine blk_drew ?_ | refine blk_alloc ?_ _)); refine blk_far ?_ NB219_223.out _; (with_reducible repeat (first | refine blk_drewN ?_ _ | refine blk_drew ?_ | refine blk_alloc ?_ _)); refine blk_far ?_ NB219_223.out _; (with_reducible repeat (first | refine blk_drewN ?_ _ | refine blk_drew ?_ | refine blk_alloc ?_ _)); refine blk_far ?_ NB219_223.out _; (with_reducible repeat (first | refine blk_drewN ?_ _ | refine blk_drew ?_ | refine blk_alloc ?_ _)); refine blk_far ?_ NB219_223.out _; (with_reducible repeat (first | refine blk_drewN ?_ _ | refine blk_drew ?_ | refine blk_alloc ?_ _)); refine blk_far ?_ NB219_223.out _; (with_reducible repeat (first | refine blk_drewN ?_ _ | refine blk_drew ?_ | refine blk_alloc ?_ _)); refine blk_far ?_ NB219_223.out _; (with_reducible repeat (first | refine blk_drewN ?_ _ | refine blk_drew ?_ | refine blk_alloc ?_ _)); refine blk_far ?_ NB219_223.out _; (with_reducible repeat (first | refine blk_drewN ?_ _ | refine blk_drew ?_ | refine blk_alloc ?_ _)); exact BK219.out⟩
              have n2_ : Aside0 ((((((((((((w16.setCell ⟨gb223, 0, none⟩ (.int .i64 ((rd_T29 l0_0 x12_1).f0.f0))).setCell ⟨gb223, 1, none⟩ (.int .i64 ((rd_T29 l0_0 x12_1).f0.f1))).setCell ⟨gb223, 2, none⟩ (.int .i64 ((rd_T29 l0_0 x12_1).f0.f2))).setCell ⟨gb223, 3, none⟩ (.bool ((rd_T29 l0_0 x12_1).f0.f3))).setCell ⟨gb223, 4, none⟩ (.int .i64 ((rd_T29 l0_0 x12_1).f1.f0))).setCell ⟨gb223, 5, none⟩ (.int .i64 ((rd_T29 l0_0 x12_1).f1.f1))).setCell ⟨gb223, 6, none⟩ (.int .i64 ((rd_T29 l0_0 x12_1).f1.f2))).setCell ⟨gb223, 7, none⟩ (.int .i64 ((rd_T29 l0_0 x12_1).f2))).setCell ⟨gb223, 8, none⟩ (.int .i64 ((rd_T29 l0_0 x12_1).f3))).setCell ⟨gb223, 9, none⟩ (.int .u32 ((rd_T29 l0_0 x12_1).f4))).setCell ⟨gb223, 10, none⟩ (.int .i64 ((rd_T29 l0_0 x12_1).f5))).heap[gb220]? = some (.cells #[.slice none 0 0, .int .i64 0] 70 (0, 0))) := ⟨by (with_reducible repeat (first | refine blk_drewN ?_ _ | refine blk_drew ?_ | refine blk_alloc ?_ _)); refine blk_far ?_ NB220_223.out _; (with_reducible repeat (first | refine blk_drewN ?_ _ | refine blk_drew ?_ | refine blk_alloc ?_ _)); refine blk_far ?_ NB220_223.out _; (with_reducible repeat (first | refine blk_drewN ?_ _ | refine blk_drew ?_ | refine blk_alloc ?_ _)); refine blk_far ?_ NB220_223.out _; (with_reducible repeat (first | refine blk_drewN ?_ _ | refine blk_drew ?_ | refine blk_alloc ?_ _)); refine blk_far ?_ NB220_223.out _; (with_reducible repeat (first | refine blk_drewN ?_ _ | refine blk_drew ?_ | refine blk_alloc ?_ _)); refine blk_far ?_ NB220_223.out _; (with_reducible repeat (first | refine blk_drewN ?_ _ | refine blk_drew ?_ | refine blk_alloc ?_ _)); refine blk_far ?_ NB220_223.out _; (with_reducible repeat (first | refine blk_drewN ?_ _ | refine blk_drew ?_ | refine blk_alloc ?_ _)); refine blk_far ?_ NB220_223.out _; (with_reducible repeat (first | refine blk_drewN ?_ _ | refine blk_drew ?_ | refine blk_alloc ?_ _)); refine blk_far ?_ NB220_223.out _; (with_reducible repeat (first | refine blk_drewN ?_ _ | refine blk_drew ?_ | refine blk_alloc ?_ _)); refine blk_far ?_ NB220_223.out _; (with_reducible repeat (first | refine blk_drewN ?_ _ | refine blk_drew ?_ | refine blk_alloc ?_ _)); refine blk_far ?_ NB220_223.out _; (with_reducible repeat (first | refine blk_drewN ?_ _ | refine blk_drew ?_ | refine blk_alloc ?_ _)); refine blk_far ?_ NB220_223.out _; (with_reducible repeat (first | refine blk_drewN ?_ _ | refine blk_drew ?_ | refine blk_alloc ?_ _)); exact BK220.out⟩
              have n3_ : Aside0 ((((((((((((w16.setCell ⟨gb223, 0, none⟩ (.int .i64 ((rd_T29 l0_0 x12_1).f0.f0))).setCell ⟨gb223, 1, none⟩ (.int .i64 ((rd_T29 l0_0 x12_1).f0.f1))).setCell ⟨gb223, 2, none⟩ (.int .i64 ((rd_T29 l0_0 x12_1).f0.f2))).setCell ⟨gb223, 3, none⟩ (.bool ((rd_T29 l0_0 x12_1).f0.f3))).setCell ⟨gb223, 4, none⟩ (.int .i64 ((rd_T29 l0_0 x12_1).f1.f0))).setCell ⟨gb223, 5, none⟩ (.int .i64 ((rd_T29 l0_0 x12_1).f1.f1))).setCell ⟨gb223, 6, none⟩ (.int .i64 ((rd_T29 l0_0 x12_1).f1.f2))).setCell ⟨gb223, 7, none⟩ (.int .i64 ((rd_T29 l0_0 x12_1).f2))).setCell ⟨gb223, 8, none⟩ (.int .i64 ((rd_T29 l0_0 x12_1).f3))).setCell ⟨gb223, 9, none⟩ (.int .u32 ((rd_T29 l0_0 x12_1).f4))).setCell ⟨gb223, 10, none⟩ (.int .i64 ((rd_T29 l0_0 x12_1).f5))).heap[gb221]? = some (.cells #[u222000, .int .i64 a0_1] 70 (0, 0))) := ⟨by (with_reducible repeat (first | refine blk_drewN ?_ _ | refine blk_drew ?_ | refine blk_alloc ?_ _)); refine blk_far ?_ NB221_223.out _; (with_reducible repeat (first | refine blk_drewN ?_ _ | refine blk_drew ?_ | refine blk_alloc ?_ _)); refine blk_far ?_ NB221_223.out _; (with_reducible repeat (first | refine blk_drewN ?_ _ | refine blk_drew ?_ | refine blk_alloc ?_ _)); refine blk_far ?_ NB221_223.out _; (with_reducible repeat (first | refine blk_drewN ?_ _ | refine blk_drew ?_ | refine blk_alloc ?_ _)); refine blk_far ?_ NB221_223.out _; (with_reducible repeat (first | refine blk_drewN ?_ _ | refine blk_drew ?_ | refine blk_alloc ?_ _)); refine blk_far ?_ NB221_223.out _; (with_reducible repeat (first | refine blk_drewN ?_ _ | refine blk_drew ?_ | refine blk_alloc ?_ _)); refine blk_far ?_ NB221_223.out _; (with_reducible repeat (first | refine blk_drewN ?_ _ | refine blk_drew ?_ | refine blk_alloc ?_ _)); refine blk_far ?_ NB221_223.out _; (with_reducible repeat (first | refine blk_drewN ?_ _ | refine blk_drew ?_ | refine blk_alloc ?_ _)); refine blk_far ?_ NB221_223.out _; (with_reducible repeat (first | refine blk_drewN ?_ _ | refine blk_drew ?_ | refine blk_alloc ?_ _)); refine blk_far ?_ NB221_223.out _; (with_reducible repeat (first | refine blk_drewN ?_ _ | refine blk_drew ?_ | refine blk_alloc ?_ _)); refine blk_far ?_ NB221_223.out _; (with_reducible repeat (first | refine blk_drewN ?_ _ | refine blk_drew ?_ | refine blk_alloc ?_ _)); refine blk_far ?_ NB221_223.out _; (with_reducible repeat (first | refine blk_drewN ?_ _ | refine blk_drew ?_ | refine blk_alloc ?_ _)); exact BK221.out⟩
              have n4_ : Aside0 ((((((((((((w16.setCell ⟨gb223, 0, none⟩ (.int .i64 ((rd_T29 l0_0 x12_1).f0.f0))).setCell ⟨gb223, 1, none⟩ (.int .i64 ((rd_T29 l0_0 x12_1).f0.f1))).setCell ⟨gb223, 2, none⟩ (.int .i64 ((rd_T29 l0_0 x12_1).f0.f2))).setCell ⟨gb223, 3, none⟩ (.bool ((rd_T29 l0_0 x12_1).f0.f3))).setCell ⟨gb223, 4, none⟩ (.int .i64 ((rd_T29 l0_0 x12_1).f1.f0))).setCell ⟨gb223, 5, none⟩ (.int .i64 ((rd_T29 l0_0 x12_1).f1.f1))).setCell ⟨gb223, 6, none⟩ (.int .i64 ((rd_T29 l0_0 x12_1).f1.f2))).setCell ⟨gb223, 7, none⟩ (.int .i64 ((rd_T29 l0_0 x12_1).f2))).setCell ⟨gb223, 8, none⟩ (.int .i64 ((rd_T29 l0_0 x12_1).f3))).setCell ⟨gb223, 9, none⟩ (.int .u32 ((rd_T29 l0_0 x12_1).f4))).setCell ⟨gb223, 10, none⟩ (.int .i64 ((rd_T29 l0_0 x12_1).f5))).heap[gb223]? = some (.cells #[.int .i64 ((rd_T29 l0_0 x12_1).f0.f0), .int .i64 ((rd_T29 l0_0 x12_1).f0.f1), .int .i64 ((rd_T29 l0_0 x12_1).f0.f2), .bool ((rd_T29 l0_0 x12_1).f0.f3), .int .i64 ((rd_T29 l0_0 x12_1).f1.f0), .int .i64 ((rd_T29 l0_0 x12_1).f1.f1), .int .i64 ((rd_T29 l0_0 x12_1).f1.f2), .int .i64 ((rd_T29 l0_0 x12_1).f2), .int .i64 ((rd_T29 l0_0 x12_1).f3), .int .u32 ((rd_T29 l0_0 x12_1).f4), .int .i64 ((rd_T29 l0_0 x12_1).f5)] 29 (0, 0))) := ⟨by (with_reducible repeat (first | refine blk_drewN ?_ _ | refine blk_drew ?_ | refine blk_alloc ?_ _)); refine blk_put (cs := #[.int .i64 ((rd_T29 l0_0 x12_1).f0.f0), .int .i64 ((rd_T29 l0_0 x12_1).f0.f1), .int .i64 ((rd_T29 l0_0 x12_1).f0.f2), .bool ((rd_T29 l0_0 x12_1).f0.f3), .int .i64 ((rd_T29 l0_0 x12_1).f1.f0), .int .i64 ((rd_T29 l0_0 x12_1).f1.f1), .int .i64 ((rd_T29 l0_0 x12_1).f1.f2), .int .i64 ((rd_T29 l0_0 x12_1).f2), .int .i64 ((rd_T29 l0_0 x12_1).f3), .int .u32 ((rd_T29 l0_0 x12_1).f4), .int .i64 0]) ?_ 10 _ rfl; (with_reducible repeat (first | refine blk_drewN ?_ _ | refine blk_drew ?_ | refine blk_alloc ?_ _)); refine blk_put (cs := #[.int .i64 ((rd_T29 l0_0 x12_1).f0.f0), .int .i64 ((rd_T29 l0_0 x12_1).f0.f1), .int .i64 ((rd_T29 l0_0 x12_1).f0.f2), .bool ((rd_T29 l0_0 x12_1).f0.f3), .int .i64 ((rd_T29 l0_0 x12_1).f1.f0), .int .i64 ((rd_T29 l0_0 x12_1).f1.f1), .int .i64 ((rd_T29 l0_0 x12_1).f1.f2), .int .i64 ((rd_T29 l0_0 x12_1).f2), .int .i64 ((rd_T29 l0_0 x12_1).f3), .int .u32 0, .int .i64 0]) ?_ 9 _ rfl; (with_reducible repeat (first | refine blk_drewN ?_ _ | refine blk_drew ?_ | refine blk_alloc ?_ _)); refine blk_put (cs := #[.int .i64 ((rd_T29 l0_0 x12_1).f0.f0), .int .i64 ((rd_T29 l0_0 x12_1).f0.f1), .int .i64 ((rd_T29 l0_0 x12_1).f0.f2), .bool ((rd_T29 l0_0 x12_1).f0.f3), .int .i64 ((rd_T29 l0_0 x12_1).f1.f0), .int .i64 ((rd_T29 l0_0 x12_1).f1.f1), .int .i64 ((rd_T29 l0_0 x12_1).f1.f2), .int .i64 ((rd_T29 l0_0 x12_1).f2), .int .i64 0, .int .u32 0, .int .i64 0]) ?_ 8 _ rfl; (with_reducible repeat (first | refine blk_drewN ?_ _ | refine blk_drew ?_ | refine blk_alloc ?_ _)); refine blk_put (cs := #[.int .i64 ((rd_T29 l0_0 x12_1).f0.f0), .int .i64 ((rd_T29 l0_0 x12_1).f0.f1), .int .i64 ((rd_T29 l0_0 x12_1).f0.f2), .bool ((rd_T29 l0_0 x12_1).f0.f3), .int .i64 ((rd_T29 l0_0 x12_1).f1.f0), .int .i64 ((rd_T29 l0_0 x12_1).f1.f1), .int .i64 ((rd_T29 l0_0 x12_1).f1.f2), .int .i64 0, .int .i64 0, .int .u32 0, .int .i64 0]) ?_ 7 _ rfl; (with_reducible repeat (first | refine blk_drewN ?_ _ | refine blk_drew ?_ | refine blk_alloc ?_ _)); refine blk_put (cs := #[.int .i64 ((rd_T29 l0_0 x12_1).f0.f0), .int .i64 ((rd_T29 l0_0 x12_1).f0.f1), .int .i64 ((rd_T29 l0_0 x12_1).f0.f2), .bool ((rd_T29 l0_0 x12_1).f0.f3), .int .i64 ((rd_T29 l0_0 x12_1).f1.f0), .int .i64 ((rd_T29 l0_0 x12_1).f1.f1), .int .i64 0, .int .i64 0, .int .i64 0, .int .u32 0, .int .i64 0]) ?_ 6 _ rfl; (with_reducible repeat (first | refine blk_drewN ?_ _ | refine blk_drew ?_ | refine blk_alloc ?_ _)); refine blk_put (cs := #[.int .i64 ((rd_T29 l0_0 x12_1).f0.f0), .int .i64 ((rd_T29 l0_0 x12_1).f0.f1), .int .i64 ((rd_T29 l0_0 x12_1).f0.f2), .bool ((rd_T29 l0_0 x12_1).f0.f3), .int .i64 ((rd_T29 l0_0 x12_1).f1.f0), .int .i64 0, .int .i64 0, .int .i64 0, .int .i64 0, .int .u32 0, .int .i64 0]) ?_ 5 _ rfl; (with_reducible repeat (first | refine blk_drewN ?_ _ | refine blk_drew ?_ | refine blk_alloc ?_ _)); refine blk_put (cs := #[.int .i64 ((rd_T29 l0_0 x12_1).f0.f0), .int .i64 ((rd_T29 l0_0 x12_1).f0.f1), .int .i64 ((rd_T29 l0_0 x12_1).f0.f2), .bool ((rd_T29 l0_0 x12_1).f0.f3), .int .i64 0, .int .i64 0, .int .i64 0, .int .i64 0, .int .i64 0, .int .u32 0, .int .i64 0]) ?_ 4 _ rfl; (with_reducible repeat (first | refine blk_drewN ?_ _ | refine blk_drew ?_ | refine blk_alloc ?_ _)); refine blk_put (cs := #[.int .i64 ((rd_T29 l0_0 x12_1).f0.f0), .int .i64 ((rd_T29 l0_0 x12_1).f0.f1), .int .i64 ((rd_T29 l0_0 x12_1).f0.f2), .bool false, .int .i64 0, .int .i64 0, .int .i64 0, .int .i64 0, .int .i64 0, .int .u32 0, .int .i64 0]) ?_ 3 _ rfl; (with_reducible repeat (first | refine blk_drewN ?_ _ | refine blk_drew ?_ | refine blk_alloc ?_ _)); refine blk_put (cs := #[.int .i64 ((rd_T29 l0_0 x12_1).f0.f0), .int .i64 ((rd_T29 l0_0 x12_1).f0.f1), .int .i64 0, .bool false, .int .i64 0, .int .i64 0, .int .i64 0, .int .i64 0, .int .i64 0, .int .u32 0, .int .i64 0]) ?_ 2 _ rfl; (with_reducible repeat (first | refine blk_drewN ?_ _ | refine blk_drew ?_ | refine blk_alloc ?_ _)); refine blk_put (cs := #[.int .i64 ((rd_T29 l0_0 x12_1).f0.f0), .int .i64 0, .int .i64 0, .bool false, .int .i64 0, .int .i64 0, .int .i64 0, .int .i64 0, .int .i64 0, .int .u32 0, .int .i64 0]) ?_ 1 _ rfl; (with_reducible repeat (first | refine blk_drewN ?_ _ | refine blk_drew ?_ | refine blk_alloc ?_ _)); refine blk_put (cs := #[.int .i64 0, .int .i64 0, .int .i64 0, .bool false, .int .i64 0, .int .i64 0, .int .i64 0, .int .i64 0, .int .i64 0, .int .u32 0, .int .i64 0]) ?_ 0 _ rfl; (with_reducible repeat (first | refine blk_drewN ?_ _ | refine blk_drew ?_ | refine blk_alloc ?_ _)); exact BK223.out⟩
              have n5_ : Aside0 (Below w.heap.size w (((((((((((w16.setCell ⟨gb223, 0, none⟩ (.int .i64 ((rd_T29 l0_0 x12_1).f0.f0))).setCell ⟨gb223, 1, none⟩ (.int .i64 ((rd_T29 l0_0 x12_1).f0.f1))).setCell ⟨gb223, 2, none⟩ (.int .i64 ((rd_T29 l0_0 x12_1).f0.f2))).setCell ⟨gb223, 3, none⟩ (.bool ((rd_T29 l0_0 x12_1).f0.f3))).setCell ⟨gb223, 4, none⟩ (.int .i64 ((rd_T29 l0_0 x12_1).f1.f0))).setCell ⟨gb223, 5, none⟩ (.int .i64 ((rd_T29 l0_0 x12_1).f1.f1))).setCell ⟨gb223, 6, none⟩ (.int .i64 ((rd_T29 l0_0 x12_1).f1.f2))).setCell ⟨gb223, 7, none⟩ (.int .i64 ((rd_T29 l0_0 x12_1).f2))).setCell ⟨gb223, 8, none⟩ (.int .i64 ((rd_T29 l0_0 x12_1).f3))).setCell ⟨gb223, 9, none⟩ (.int .u32 ((rd_T29 l0_0 x12_1).f4))).setCell ⟨gb223, 10, none⟩ (.int .i64 ((rd_T29 l0_0 x12_1).f5)))) := ⟨by repeat (first | (with_reducible first | exact HB.out | apply below_alloc | apply pw_below_drewN | apply below_drew1 | refine below_set ?_ GE219.out | refine below_set ?_ GE220.out | refine below_set ?_ GE221.out | refine below_set ?_ GE223.out) | exact HB.out)⟩
              (try clear HO_222000)
              (try clear BK219)
              (try clear BK220)
              (try clear BK221)
              (try clear BK223)
              (try clear HB)
              generalize (((((((((((w16.setCell ⟨gb223, 0, none⟩ (.int .i64 ((rd_T29 l0_0 x12_1).f0.f0))).setCell ⟨gb223, 1, none⟩ (.int .i64 ((rd_T29 l0_0 x12_1).f0.f1))).setCell ⟨gb223, 2, none⟩ (.int .i64 ((rd_T29 l0_0 x12_1).f0.f2))).setCell ⟨gb223, 3, none⟩ (.bool ((rd_T29 l0_0 x12_1).f0.f3))).setCell ⟨gb223, 4, none⟩ (.int .i64 ((rd_T29 l0_0 x12_1).f1.f0))).setCell ⟨gb223, 5, none⟩ (.int .i64 ((rd_T29 l0_0 x12_1).f1.f1))).setCell ⟨gb223, 6, none⟩ (.int .i64 ((rd_T29 l0_0 x12_1).f1.f2))).setCell ⟨gb223, 7, none⟩ (.int .i64 ((rd_T29 l0_0 x12_1).f2))).setCell ⟨gb223, 8, none⟩ (.int .i64 ((rd_T29 l0_0 x12_1).f3))).setCell ⟨gb223, 9, none⟩ (.int .u32 ((rd_T29 l0_0 x12_1).f4))).setCell ⟨gb223, 10, none⟩ (.int .i64 ((rd_T29 l0_0 x12_1).f5))) = w21 at n0_ n1_ n2_ n3_ n4_ n5_ ⊢
              have HO_222000 := n0_
              have BK219 := n1_
              have BK220 := n2_
              have BK221 := n3_
              have BK223 := n4_
              have HB := n5_
              clear n0_ n1_ n2_ n3_ n4_ n5_
              have n0_ := Aside0.mk (Kd.R_drew HO_222000.out)
              have n1_ := Aside0.mk (blk_drew BK219.out)
              have n2_ := Aside0.mk (blk_drew BK220.out)
              have n3_ := Aside0.mk (blk_drew BK221.out)
              have n4_ := Aside0.mk (blk_drew BK223.out)
              have n5_ := Aside0.mk (below_drew1 HB.out)
              clear HO_222000
              clear BK219
              clear BK220
              clear BK221
              clear BK223
              clear HB
              have HO_222000 := n0_
              have BK219 := n1_
              have BK220 := n2_
              have BK221 := n3_
              have BK223 := n4_
              have HB := n5_
              clear n0_ n1_ n2_ n3_ n4_ n5_
              refine start_ (n := 8) (S := fun w' => w'.cell? ⟨gb221, 0, none⟩ = some (u222000) ∧ w'.cell? ⟨gb221, 1, none⟩ = some (.int .i64 a0_1) ∧ w'.cell? ⟨gb223, 0, none⟩ = some (.int .i64 ((rd_T29 l0_0 x12_1).f0.f0)) ∧ w'.cell? ⟨gb223, 1, none⟩ = some (.int .i64 ((rd_T29 l0_0 x12_1).f0.f1)) ∧ w'.cell? ⟨gb223, 2, none⟩ = some (.int .i64 ((rd_T29 l0_0 x12_1).f0.f2)) ∧ w'.cell? ⟨gb223, 3, none⟩ = some (.bool ((rd_T29 l0_0 x12_1).f0.f3)) ∧ w'.cell? ⟨gb223, 4, none⟩ = some (.int .i64 ((rd_T29 l0_0 x12_1).f1.f0)) ∧ w'.cell? ⟨gb223, 5, none⟩ = some (.int .i64 ((rd_T29 l0_0 x12_1).f1.f1)) ∧ w'.cell? ⟨gb223, 6, none⟩ = some (.int .i64 ((rd_T29 l0_0 x12_1).f1.f2)) ∧ w'.cell? ⟨gb223, 7, none⟩ = some (.int .i64 ((rd_T29 l0_0 x12_1).f2)) ∧ w'.cell? ⟨gb223, 8, none⟩ = some (.int .i64 ((rd_T29 l0_0 x12_1).f3)) ∧ w'.cell? ⟨gb223, 9, none⟩ = some (.int .u32 ((rd_T29 l0_0 x12_1).f4)) ∧ w'.cell? ⟨gb223, 10, none⟩ = some (.int .i64 ((rd_T29 l0_0 x12_1).f5))) (ds := [7]) #[false, false, false, false, false, false, false, false] (by kernel_rfl) rfl rfl ⟨(blk_cell BK221.out 0).trans rfl, (blk_cell BK221.out 1).trans rfl, (blk_cell BK223.out 0).trans rfl, (blk_cell BK223.out 1).trans rfl, (blk_cell BK223.out 2).trans rfl, (blk_cell BK223.out 3).trans rfl, (blk_cell BK223.out 4).trans rfl, (blk_cell BK223.out 5).trans rfl, (blk_cell BK223.out 6).trans rfl, (blk_cell BK223.out 7).trans rfl, (blk_cell BK223.out 8).trans rfl, (blk_cell BK223.out 9).trans rfl, (blk_cell BK223.out 10).trans rfl⟩ (fun hHeld => ?_); refine with_tabW weftlinelaw14_Program.tab5 weftlinelaw14_Program.bits5 (fun HT_ HW_ => ?_)
              generalize w21.drew = w22 at HO_222000 BK219 BK220 BK221 BK223 HB hHeld ⊢
              refine pure_ (i := 0) (N := some 16) (v := ?_) (a' := ?_) #[true, false, false, false, false, false, false, false] rfl rfl (any_of HT_.out (by kernel_rfl)) (fun _ _ _ h => h) (Or.inl ⟨by rfl, ?_⟩) ?_ ?_
              rotate_left
              · intro w'
                go_simp
                with_reducible rfl
              rotate_left
              · simp only [Act.put, List.setIfInBounds_toArray, List.set_cons_zero, List.set_cons_succ, i64_w, i32_w]
                rfl
              refine take_ (i := 1) (N := some 17) (v := ?_) (a' := ?_) #[true, true, false, false, false, false, false, false] rfl rfl (take_ofW HT_.out HW_.out (by kernel_rfl)) (fun _ _ _ h => h) (Or.inl ⟨by rfl, ?_⟩) hHeld ?_ ?_
              rotate_left
              · rintro w' ⟨s0, s1, s2, s3, s4, s5, s6, s7, s8, s9, s10, s11, s12⟩
                go_simp
                with_reducible rfl
              rotate_left
              · simp only [Act.put, List.setIfInBounds_toArray, List.set_cons_zero, List.set_cons_succ, i64_w, i32_w]
                rfl
              refine take_ (i := 2) (N := some 18) (v := ?_) (a' := ?_) #[true, true, true, false, false, false, false, false] rfl rfl (take_ofW HT_.out HW_.out (by kernel_rfl)) (fun _ _ _ h => h) (Or.inl ⟨by rfl, ?_⟩) hHeld ?_ ?_
              rotate_left
              · rintro w' ⟨s0, s1, s2, s3, s4, s5, s6, s7, s8, s9, s10, s11, s12⟩
                go_simp
                with_reducible rfl
              rotate_left
              · simp only [Act.put, List.setIfInBounds_toArray, List.set_cons_zero, List.set_cons_succ, i64_w, i32_w]
                rfl
              refine one_ (i := 3) (N := some 19) #[true, true, true, true, false, false, false, false] rfl rfl (one_of HT_.out (by kernel_rfl)) (by decide) (fun K hK => ?_)
              refine goes_ Try.func12 (by kernel_rfl) rfl #[.agg #[.int .i64 ((rd_T29 l0_0 x12_1).f0.f0), .int .i64 ((rd_T29 l0_0 x12_1).f0.f1), .int .i64 ((rd_T29 l0_0 x12_1).f0.f2), .bool ((rd_T29 l0_0 x12_1).f0.f3), .int .i64 ((rd_T29 l0_0 x12_1).f1.f0), .int .i64 ((rd_T29 l0_0 x12_1).f1.f1), .int .i64 ((rd_T29 l0_0 x12_1).f1.f2), .int .i64 ((rd_T29 l0_0 x12_1).f2), .int .i64 ((rd_T29 l0_0 x12_1).f3), .int .u32 ((rd_T29 l0_0 x12_1).f4), .int .i64 ((rd_T29 l0_0 x12_1).f5)]] (by rfl) rfl rfl (by (try simp only [List.map_toArray, List.map_cons, List.map_nil]); first | done | rfl | (simp only [List.length_drop, List.length_take]; rfl)) ?_
              with_reducible refine (weftlinelaw13_Program.calls ((rd_T29 l0_0 x12_1).f0.f0) ((rd_T29 l0_0 x12_1).f0.f1) ((rd_T29 l0_0 x12_1).f0.f2) ((rd_T29 l0_0 x12_1).f0.f3) ((rd_T29 l0_0 x12_1).f1.f0) ((rd_T29 l0_0 x12_1).f1.f1) ((rd_T29 l0_0 x12_1).f1.f2) ((rd_T29 l0_0 x12_1).f2) ((rd_T29 l0_0 x12_1).f3) ((rd_T29 l0_0 x12_1).f4) ((rd_T29 l0_0 x12_1).f5) t224 t225 t226 t227 t228 t229 t230 t231 t232 t233 t234 _ A14.out).mono ?_
              rintro e w23 ⟨rfl, hb⟩
              refine ⟨_, rfl, ?_⟩
              have n0_ := Aside0.mk (Kd.R_below (by (with_reducible repeat (first | apply Kd.R_alloc | apply Kd.R_drewN | apply Kd.R_drew)); exact HO_222000.out) hb)
              have n1_ := Aside0.mk (blk_below (g := gb219) (o := .cells #[.slice (some ad222) l0_0.length c0_0, .int .i64 a0_1] 66 (0, 0)) (by (with_reducible repeat (first | refine blk_drewN ?_ _ | refine blk_drew ?_ | refine blk_alloc ?_ _)); exact BK219.out) hb)
              have n2_ := Aside0.mk (blk_below (g := gb220) (o := .cells #[.slice none 0 0, .int .i64 0] 70 (0, 0)) (by (with_reducible repeat (first | refine blk_drewN ?_ _ | refine blk_drew ?_ | refine blk_alloc ?_ _)); exact BK220.out) hb)
              have n3_ := Aside0.mk (blk_below (g := gb221) (o := .cells #[u222000, .int .i64 a0_1] 70 (0, 0)) (by (with_reducible repeat (first | refine blk_drewN ?_ _ | refine blk_drew ?_ | refine blk_alloc ?_ _)); exact BK221.out) hb)
              have n4_ := Aside0.mk (blk_below (g := gb223) (o := .cells #[.int .i64 ((rd_T29 l0_0 x12_1).f0.f0), .int .i64 ((rd_T29 l0_0 x12_1).f0.f1), .int .i64 ((rd_T29 l0_0 x12_1).f0.f2), .bool ((rd_T29 l0_0 x12_1).f0.f3), .int .i64 ((rd_T29 l0_0 x12_1).f1.f0), .int .i64 ((rd_T29 l0_0 x12_1).f1.f1), .int .i64 ((rd_T29 l0_0 x12_1).f1.f2), .int .i64 ((rd_T29 l0_0 x12_1).f2), .int .i64 ((rd_T29 l0_0 x12_1).f3), .int .u32 ((rd_T29 l0_0 x12_1).f4), .int .i64 ((rd_T29 l0_0 x12_1).f5)] 29 (0, 0)) (by (with_reducible repeat (first | refine blk_drewN ?_ _ | refine blk_drew ?_ | refine blk_alloc ?_ _)); exact BK223.out) hb)
              have n5_ := Aside0.mk (below_step (by repeat (first | (with_reducible first | exact HB.out | apply below_alloc | apply pw_below_drewN | apply below_drew1 | refine below_set ?_ GE219.out | refine below_set ?_ GE220.out | refine below_set ?_ GE221.out | refine below_set ?_ GE223.out) | exact HB.out)) hb)
              clear HO_222000
              clear BK219
              clear BK220
              clear BK221
              clear BK223
              clear HB
              have HO_222000 := n0_
              have BK219 := n1_
              have BK220 := n2_
              have BK221 := n3_
              have BK223 := n4_
              have HB := n5_
              clear n0_ n1_ n2_ n3_ n4_ n5_
              (try clear hb)
              (try clear hb2)
              (try clear hk)
              (try clear hi)
              refine hK.out _ _ ⟨(blk_cell BK221.out 0).trans rfl, (blk_cell BK221.out 1).trans rfl, (blk_cell BK223.out 0).trans rfl, (blk_cell BK223.out 1).trans rfl, (blk_cell BK223.out 2).trans rfl, (blk_cell BK223.out 3).trans rfl, (blk_cell BK223.out 4).trans rfl, (blk_cell BK223.out 5).trans rfl, (blk_cell BK223.out 6).trans rfl, (blk_cell BK223.out 7).trans rfl, (blk_cell BK223.out 8).trans rfl, (blk_cell BK223.out 9).trans rfl, (blk_cell BK223.out 10).trans rfl⟩ (fun hHeld => ?_)
              clear hK K
              refine norm_ (a' := ?_) ?_ ?_
              rotate_left
              · show Act.put _ (some 19) _ = _
                simp only [Act.put, List.setIfInBounds_toArray, List.set_cons_zero, List.set_cons_succ, i64_w, i32_w]
                rfl
              refine one_ (i := 4) (N := some 20) #[true, true, true, true, true, false, false, false] rfl rfl (one_of HT_.out (by kernel_rfl)) (by decide) (fun K hK => ?_)
              refine value_ (w1 := ?_) (v := ?_) (by rfl) rfl ?_ ?_
              rotate_left 2
              · go_simp
                constructor
                · rfl
                · rfl
              refine hK.out _ _ ⟨(blk_cell (blk_alloc BK221.out _) 0).trans rfl, (blk_cell (blk_alloc BK221.out _) 1).trans rfl, (blk_cell (blk_alloc BK223.out _) 0).trans rfl, (blk_cell (blk_alloc BK223.out _) 1).trans rfl, (blk_cell (blk_alloc BK223.out _) 2).trans rfl, (blk_cell (blk_alloc BK223.out _) 3).trans rfl, (blk_cell (blk_alloc BK223.out _) 4).trans rfl, (blk_cell (blk_alloc BK223.out _) 5).trans rfl, (blk_cell (blk_alloc BK223.out _) 6).trans rfl, (blk_cell (blk_alloc BK223.out _) 7).trans rfl, (blk_cell (blk_alloc BK223.out _) 8).trans rfl, (blk_cell (blk_alloc BK223.out _) 9).trans rfl, (blk_cell (blk_alloc BK223.out _) 10).trans rfl⟩ (fun hHeld => ?_)
              clear hK K
              refine norm_ (a' := ?_) ?_ ?_
              rotate_left
              · show Act.put _ (some 20) _ = _
                simp only [Act.put, List.setIfInBounds_toArray, List.set_cons_zero, List.set_cons_succ, i64_w, i32_w]
                rfl
              refine one_ (i := 5) (N := some 21) #[true, true, true, true, true, true, false, false] rfl rfl (one_of HT_.out (by kernel_rfl)) (by decide) (fun K hK => ?_)
              refine Kd.R_append_step k34 (w0 := w) w.heap.size (by rfl) (.tmp 17) (.tmp 20) 68 34 (.agg #[(.int .i64 0), (.int .i64 0), (.int .i64 0), (.bool false), (.int .i64 0), (.int .i64 0), (.int .i64 0), (.int .i64 0), (.int .i64 0), (.int .u32 0), (.int .i64 0)]) 88 rfl Try.underlying68 info34 rfl (by decide) (by omega) u222000 x222000_1 (⟨(⟨t224, t225, t226, t227⟩ : S31), (⟨t228, t229, t230⟩ : S32), t231, t232, t233, t234⟩ : S34) [.int .i64 t224, .int .i64 t225, .int .i64 t226, .bool t227, .int .i64 t228, .int .i64 t229, .int .i64 t230, .int .i64 t231, .int .i64 t232, .int .u32 t233, .int .i64 t234] (fun _ => True) (fun _ => False) rfl rfl ?aP (fun _ hk => hk.elim) ?aF ?aO ?aB ?aS ?aL ?_
              (case aP => exact k34_mkM _ _ _ (⟨(⟨t224, t225, t226, t227⟩ : S31), (⟨t228, t229, t230⟩ : S32), t231, t232, t233, t234⟩ : S34))
              (case aB => exact (by repeat (first | (with_reducible first | exact HB.out | apply below_alloc | apply pw_below_drewN | apply below_drew1 | refine below_set ?_ GE219.out | refine below_set ?_ GE220.out | refine below_set ?_ GE221.out | refine below_set ?_ GE223.out) | exact HB.out)))
              (case aF => exact (fun _ _ => trivial))
              (case aO => exact (by (with_reducible repeat (first | apply Kd.R_alloc | apply Kd.R_drewN | apply Kd.R_drew)); exact HO_222000.out))
              (case aS => exact (below_size (by repeat (first | (with_reducible first | exact HB.out | apply below_alloc | apply pw_below_drewN | apply below_drew1 | refine below_set ?_ GE219.out | refine below_set ?_ GE220.out | refine below_set ?_ GE221.out | refine below_set ?_ GE223.out) | exact HB.out))))
              (case aL => have := LMc15.out; omega)
              intro v236 w24 ho hb hg hat
              rw [← Ny235.out] at ho
              have n0_ := Aside0.mk (blk_grown (g := gb219) (o := .cells #[.slice (some ad222) l0_0.length c0_0, .int .i64 a0_1] 66 (0, 0)) (by (with_reducible repeat (first | refine blk_drewN ?_ _ | refine blk_drew ?_ | refine blk_alloc ?_ _)); exact BK219.out) hg (Kd.R_ne HO_222000.out BK219.out (by decide)))
              have n1_ := Aside0.mk (blk_grown (g := gb220) (o := .cells #[.slice none 0 0, .int .i64 0] 70 (0, 0)) (by (with_reducible repeat (first | refine blk_drewN ?_ _ | refine blk_drew ?_ | refine blk_alloc ?_ _)); exact BK220.out) hg (Kd.R_ne HO_222000.out BK220.out (by decide)))
              have n2_ := Aside0.mk (blk_grown (g := gb221) (o := .cells #[u222000, .int .i64 a0_1] 70 (0, 0)) (by (with_reducible repeat (first | refine blk_drewN ?_ _ | refine blk_drew ?_ | refine blk_alloc ?_ _)); exact BK221.out) hg (Kd.R_ne HO_222000.out BK221.out (by decide)))
              have n3_ := Aside0.mk (blk_grown (g := gb223) (o := .cells #[.int .i64 ((rd_T29 l0_0 x12_1).f0.f0), .int .i64 ((rd_T29 l0_0 x12_1).f0.f1), .int .i64 ((rd_T29 l0_0 x12_1).f0.f2), .bool ((rd_T29 l0_0 x12_1).f0.f3), .int .i64 ((rd_T29 l0_0 x12_1).f1.f0), .int .i64 ((rd_T29 l0_0 x12_1).f1.f1), .int .i64 ((rd_T29 l0_0 x12_1).f1.f2), .int .i64 ((rd_T29 l0_0 x12_1).f2), .int .i64 ((rd_T29 l0_0 x12_1).f3), .int .u32 ((rd_T29 l0_0 x12_1).f4), .int .i64 ((rd_T29 l0_0 x12_1).f5)] 29 (0, 0)) (by (with_reducible repeat (first | refine blk_drewN ?_ _ | refine blk_drew ?_ | refine blk_alloc ?_ _)); exact BK223.out) hg (Kd.R_ne HO_222000.out BK223.out (by decide)))
              have n4_ := Aside0.mk (hb)
              have n5_ := Aside0.mk (ho)
              clear BK219
              clear BK220
              clear BK221
              clear BK223
              clear HB
              clear HO_222000
              have BK219 := n0_
              have BK220 := n1_
              have BK221 := n2_
              have BK223 := n3_
              have HB := n4_
              have HO237 := n5_
              clear n0_ n1_ n2_ n3_ n4_ n5_
              clear ho hb hg hat
              obtain ⟨Ao25, co25, eo25⟩ := Kd.R_slice HO237.out
              (first | subst eo25 | (injection eo25 with f1_ f2_ f3_; have f4_ := f1_.symm; have f5_ := f3_.symm; clear f1_ f2_ f3_; subst f4_; subst f5_))
              refine hK.out _ _ ⟨(blk_cell BK221.out 0).trans rfl, (blk_cell BK221.out 1).trans rfl, (blk_cell BK223.out 0).trans rfl, (blk_cell BK223.out 1).trans rfl, (blk_cell BK223.out 2).trans rfl, (blk_cell BK223.out 3).trans rfl, (blk_cell BK223.out 4).trans rfl, (blk_cell BK223.out 5).trans rfl, (blk_cell BK223.out 6).trans rfl, (blk_cell BK223.out 7).trans rfl, (blk_cell BK223.out 8).trans rfl, (blk_cell BK223.out 9).trans rfl, (blk_cell BK223.out 10).trans rfl⟩ (fun hHeld => ?_)
              clear hK K
              refine norm_ (a' := ?_) ?_ ?_
              rotate_left
              · show Act.put _ (some 21) _ = _
                simp only [Act.put, List.setIfInBounds_toArray, List.set_cons_zero, List.set_cons_succ, i64_w, i32_w]
                rfl
              refine pure_ (i := 6) (N := some 22) (v := ?_) (a' := ?_) #[true, true, true, true, true, true, true, false] rfl rfl (any_of HT_.out (by kernel_rfl)) (fun _ _ _ h => h) (Or.inl ⟨by rfl, ?_⟩) ?_ ?_
              rotate_left
              · intro w'
                go_simp
                with_reducible rfl
              rotate_left
              · simp only [Act.put, List.setIfInBounds_toArray, List.set_cons_zero, List.set_cons_succ, i64_w, i32_w]
                rfl
              refine last_ (i := 7) (N := none) #[true, true, true, true, true, true, true, true] rfl rfl (one_of HT_.out (by kernel_rfl)) (by decide) (fun K hK => ?_)
              have hs26 : w24.cell? ⟨gb221, 0, none⟩ = some (u222000) := (blk_cell BK221.out 0).trans rfl
              have hfs26 := blk_frozen BK221.out 0
              have hns26_0 := NB219_221.out
              have hns26_1 := NB220_221.out
              have hns26_3 := NB223_221.out
              have hms26_0 := NB221_219.out
              have hms26_1 := NB221_220.out
              have hms26_3 := NB221_223.out
              refine skip_ (w1 := ?_) (by rfl) rfl ?_ ?_
              rotate_left
              · go_simp
                rfl
              refine hK.out _ _ ?_
              clear hK K
              refine done_ (done_of HT_.out (by kernel_rfl)) ?_
              try go_wp2
              go_roundg k1
              case measure => have := HK1.out; omega
              case rel => exact ⟨(wrap64 (x12_1 + 1)), (y235), (.slice Ao25 y235.length co25), (by first | rfl | (simp; done) | (simp [*]; done)), H', ⟨by have := HK1.out; omega⟩, ⟨by (with_reducible repeat (first | apply Kd.R_alloc | apply Kd.R_drewN | apply Kd.R_drew)); exact Kd.R_mono (Kd.R_far (p := ⟨gb221, 0, none⟩) (Kd.R_types HO237.out BK221.out (by decide)) (fun _ hk => hk.2) (.slice Ao25 y235.length co25)) (fun _ hk => trivial)⟩, ⟨by (with_reducible repeat (first | refine blk_drewN ?_ _ | refine blk_drew ?_ | refine blk_alloc ?_ _)); refine blk_far ?_ NB219_221.out _; (with_reducible repeat (first | refine blk_drewN ?_ _ | refine blk_drew ?_ | refine blk_alloc ?_ _)); exact BK219.out⟩, ⟨by (with_reducible repeat (first | refine blk_drewN ?_ _ | refine blk_drew ?_ | refine blk_alloc ?_ _)); refine blk_far ?_ NB220_221.out _; (with_reducible repeat (first | refine blk_drewN ?_ _ | refine blk_drew ?_ | refine blk_alloc ?_ _)); exact BK220.out⟩, ⟨by (with_reducible repeat (first | refine blk_drewN ?_ _ | refine blk_drew ?_ | refine blk_alloc ?_ _)); refine blk_put (cs := #[u222000, .int .i64 a0_1]) ?_ 0 _ rfl; (with_reducible repeat (first | refine blk_drewN ?_ _ | refine blk_drew ?_ | refine blk_alloc ?_ _)); exact BK221.out⟩, ⟨by repeat (first | (with_reducible first | exact HB.out | apply below_alloc | apply pw_below_drewN | apply below_drew1 | refine below_set ?_ GE219.out | refine below_set ?_ GE220.out | refine below_set ?_ GE221.out | refine below_set ?_ GE223.out) | exact HB.out)⟩⟩
            · rw [if_neg c15] at H
              exact absurd H (by simp)
          · rw [if_neg c13] at H
            exact absurd H (by simp)
        · rw [if_neg c12] at H
          exact absurd H (by simp)
      · rw [if_neg c11] at H
        have c11b0 : decide (x12_1 < (l0_0.length : Int)) = false := decide_eq_false c11
        clear c11
        simp only [Option.some.injEq, Prod.mk.injEq] at H
        obtain ⟨rfl, rfl⟩ := H
        have hnb27 := NB221_219.out
        have hnc27 := NB219_221.out
        have hnb28 := NB221_220.out
        have hnc28 := NB220_221.out
        have hcz29_0 : wr.cell? ⟨gb221, 0, none⟩ = some (u222000) := (blk_cell BK221.out 0).trans rfl
        have hcz29_1 : wr.cell? ⟨gb221, 1, none⟩ = some (.int .i64 a0_1) := (blk_cell BK221.out 1).trans rfl
        have hfz29_0 := blk_frozen BK221.out 0
        have hfz29_1 := blk_frozen BK221.out 1
        obtain ⟨Ao30, co30, eo30⟩ := Kd.R_slice HO_222000.out
        subst eo30
        have hnb31 := NB220_219.out
        have hnc31 := NB219_220.out
        have hcz32_0 : wr.cell? ⟨gb220, 0, none⟩ = some (.slice none 0 0) := (blk_cell BK220.out 0).trans rfl
        have hcz32_1 : wr.cell? ⟨gb220, 1, none⟩ = some (.int .i64 0) := (blk_cell BK220.out 1).trans rfl
        have hfz32_0 := blk_frozen BK220.out 0
        have hfz32_1 := blk_frozen BK220.out 1
        go_wp2
        refine bodyPost_ret (results_cell_row rfl _ _ gb220 70 #[.slice Ao30 x222000_1.length co30, .int .i64 a0_1] (0, 0) _ rfl (by (with_reducible repeat (first | refine blk_drewN ?_ _ | refine blk_drew ?_ | refine blk_alloc ?_ _)); refine blk_put (cs := #[.slice Ao30 x222000_1.length co30, .int .i64 0]) ?_ 1 _ rfl; (with_reducible repeat (first | refine blk_drewN ?_ _ | refine blk_drew ?_ | refine blk_alloc ?_ _)); refine blk_put (cs := #[.slice none 0 0, .int .i64 0]) ?_ 0 _ rfl; (with_reducible repeat (first | refine blk_drewN ?_ _ | refine blk_drew ?_ | refine blk_alloc ?_ _)); exact BK220.out) Try.underlying70 rfl (by kernel_rfl)) rfl ?_
        exact ⟨_, by first | rfl | (simp [errW_none, errW_some] <;> rfl) | (simp [*, errW_none, errW_some] <;> rfl), by (with_reducible repeat (first | apply Kd.R_alloc | apply Kd.R_drewN | apply Kd.R_drew)); exact Kd.R_mono (Kd.R_far (p := ⟨gb220, 1, none⟩) (Kd.R_far (p := ⟨gb220, 0, none⟩) (Kd.R_types HO_222000.out BK220.out (by decide)) (fun _ hk => hk.2) (.slice Ao30 x222000_1.length co30)) (fun _ hk => hk.2) (.int .i64 a0_1)) (fun _ hk => trivial), by repeat (first | (with_reducible first | exact HB.out | apply below_alloc | apply pw_below_drewN | apply below_drew1 | refine below_set ?_ GE219.out | refine below_set ?_ GE220.out | refine below_set ?_ GE221.out) | exact HB.out)⟩

end Go.Proofs.Ytblooffiggciiaa.PPs
/- PPsx42 -/
namespace Go.Proofs.Ytblooffiggciiaa.PPs
open Go.RowKit Go.Proofs.YtblooffiggciiaaW.PrintWords Go.Proofs.YtblooffiggciiaaW.PrintLast Go.Proofs.YtblooffiggciiaaW.PrintMore
attribute [local go_sem] max2_int min2_int max_two min_two max_three min_three max_four min_four   -- for this text's walks alone
attribute [local go_sem] Go.Proofs.Ytblooffiggciiaa.Aid.isSome_setCell
def weftlineref14_find.l0 : Nat → Int → Int → List (S29) → Int → Option (Int)
  | 0, _, _, _, _ => none
  | k + 1, x1, x5, x247000, x247001 => if x5 < (x247000.length : Int) then (if 0 ≤ x5 then (if ((rd_T29 x247000 x5).f2) = x1 then (some x5) else (weftlineref14_find.l0 k x1 (wrap64 (x5 + 1)) x247000 x247001)) else (none)) else (some (-1))
def weftlineref14_find.f (k : Nat) (l0_0 : List (S29)) (a0_1 : Int) (a1 : Int) : Option (Int) := weftlineref14_find.l0 k a1 0 l0_0 a0_1
set_option maxHeartbeats 8000000 in
set_option maxRecDepth 100000 in
theorem weftlineref14_find.calls (k : Nat) (A0_0 : Option Addr) (c0_0 : Nat) (l0_0 : List (S29)) (a0_1 : Int) (a1 : Int) (r : Int) (w : World) (hr0_0 : Kd.C k29 w A0_0 l0_0.length l0_0) (hc0_0 : l0_0.length ≤ c0_0) (h : weftlineref14_find.f k l0_0 a0_1 a1 = some r) :
    Calls Try.prog 83 #[.agg #[.slice A0_0 l0_0.length c0_0, .int .i64 a0_1], .int .i64 a1] w fun e w' => e = .returned (.int .i64 r) ∧ Below w.heap.size w w' := by
  have hu66 := Try.underlying66
  have HR0_0 := Aside0.mk hr0_0
  have HC0_0 := Aside0.mk hc0_0
  clear hr0_0 hc0_0
  have HB := Aside0.mk (Below.refl w.heap.size w)
  have H : (weftlineref14_find.l0 k a1 0 l0_0 a0_1) = some r := h
  clear h
  have H' := Aside0.mk H
  clear H
  go_enter Try.func83, Try.ntmps83
  go_wp2_with (first | ((with_reducible refine gate_dst (N := 2) rfl ?_); refine box_event ?hg (N := 2) ?hd (cs := #[.slice A0_0 l0_0.length c0_0, .int .i64 a0_1]) (t := 66) ?hr ?_; (case hd => rfl); (case hg => rfl); (case hr => first | (go_simp; done) | (go_simp; rfl)); intro gb246 hg w3 hbox hb; have n0_ := Aside0.mk (below_step (by repeat (first | (with_reducible first | exact HB.out | apply below_alloc | apply pw_below_drewN | apply below_drew1) | exact HB.out)) hb); have n1_ := Aside0.mk (hbox); have n2_ := Aside0.mk ((by rw [hg]; exact (below_size (by repeat (first | (with_reducible first | exact HB.out | apply below_alloc | apply pw_below_drewN | apply below_drew1) | exact HB.out))) : w.heap.size ≤ gb246)); have n3_ := Aside0.mk ((by rw [hg]; exact (below_size (by repeat (first | (with_reducible first | exact HB.out | apply below_alloc | apply pw_below_drewN | apply below_drew1) | exact HB.out))) : w.heap.size ≤ gb246)); clear HB; have HB := n0_; have BK246 := n1_; have GW246 := n2_; have GE246 := n3_; clear n0_ n1_ n2_ n3_; clear hb hbox hg))
  go_loopg [5] k (fun kq v5 w' => ∃ (x5_1 : Int), v5 = .int .i64 x5_1 ∧ Aside0 (weftlineref14_find.l0 kq a1 x5_1 l0_0 a0_1 = some r) ∧ Aside0 (kq ≤ k) ∧ Aside0 (w'.heap[gb246]? = some (.cells #[(.slice A0_0 l0_0.length c0_0), .int .i64 a0_1] 66 (0, 0))) ∧ Aside0 (Below w.heap.size w w'))
  case atStart => exact ⟨(0), (by first | rfl | (simp; done) | (simp [*]; done)), H', ⟨Nat.le_refl _⟩, ⟨by (with_reducible repeat (first | refine blk_drewN ?_ _ | refine blk_drew ?_ | refine blk_alloc ?_ _)); exact BK246.out⟩, ⟨by repeat (first | (with_reducible first | exact HB.out | apply below_alloc | apply pw_below_drewN | apply below_drew1 | refine below_set ?_ GE246.out) | exact HB.out)⟩⟩
  case round =>
    clear H'
    try clear p2
    obtain ⟨x5_1, rfl, HA, HK1, BK246, HB⟩ := hrel
    cases gk with
    | zero => exact absurd HA.out (by simp [weftlineref14_find.l0])
    | succ k1 =>
      have H := HA.out
      clear HA
      simp only [weftlineref14_find.l0] at H
      by_cases c4 : x5_1 < (l0_0.length : Int)
      · rw [if_pos c4] at H
        have c4b0 : decide (x5_1 < (l0_0.length : Int)) = true := decide_eq_true c4
        clear c4
        by_cases c5 : 0 ≤ x5_1
        · rw [if_pos c5] at H
          have c5b0 : decide (0 ≤ x5_1) = true := decide_eq_true c5
          clear c5
          by_cases c6 : ((rd_T29 l0_0 x5_1).f2) = a1
          · rw [if_pos c6] at H
            have c6b0 : (((rd_T29 l0_0 x5_1).f2) == a1) = true := beq_iff_eq.mpr c6
            have c6b1 : (((rd_T29 l0_0 x5_1).f2) != a1) = false := bne_eq_false_iff_eq.mpr c6
            clear c6
            obtain rfl := Option.some.inj H
            have hcz7_0 : wr.cell? ⟨gb246, 0, none⟩ = some (.slice A0_0 l0_0.length c0_0) := (blk_cell BK246.out 0).trans rfl
            have hcz7_1 : wr.cell? ⟨gb246, 1, none⟩ = some (.int .i64 a0_1) := (blk_cell BK246.out 1).trans rfl
            have hfz7_0 := blk_frozen BK246.out 0
            have hfz7_1 := blk_frozen BK246.out 1
            have p247 : 0 ≤ (x5_1 : Int) := of_decide_eq_true (by first | (with_reducible assumption) | assumption)
            have q247 : x5_1 < (l0_0.length : Int) := of_decide_eq_true (by first | (with_reducible assumption) | assumption)
            obtain ⟨ad247, e247, hx247_0, hx247_1, hx247_2, hx247_3, hx247_4, hx247_5, hx247_6, hx247_7, hx247_8, hx247_9, hx247_10⟩ := at_T29 HR0_0.out x5_1 p247 q247
            cases e247
            replace hx247_0 := (HB.out.cell (World.block_lt_of_cell? w _ hx247_0)).trans hx247_0
            replace hx247_1 := (HB.out.cell (World.block_lt_of_cell? w _ hx247_1)).trans hx247_1
            replace hx247_2 := (HB.out.cell (World.block_lt_of_cell? w _ hx247_2)).trans hx247_2
            replace hx247_3 := (HB.out.cell (World.block_lt_of_cell? w _ hx247_3)).trans hx247_3
            replace hx247_4 := (HB.out.cell (World.block_lt_of_cell? w _ hx247_4)).trans hx247_4
            replace hx247_5 := (HB.out.cell (World.block_lt_of_cell? w _ hx247_5)).trans hx247_5
            replace hx247_6 := (HB.out.cell (World.block_lt_of_cell? w _ hx247_6)).trans hx247_6
            replace hx247_7 := (HB.out.cell (World.block_lt_of_cell? w _ hx247_7)).trans hx247_7
            replace hx247_8 := (HB.out.cell (World.block_lt_of_cell? w _ hx247_8)).trans hx247_8
            replace hx247_9 := (HB.out.cell (World.block_lt_of_cell? w _ hx247_9)).trans hx247_9
            replace hx247_10 := (HB.out.cell (World.block_lt_of_cell? w _ hx247_10)).trans hx247_10
            replace p247 := eq_true p247
            replace q247 := eq_true q247
            go_wp2
            go_ret
            exact ⟨by first | rfl | (simp [errW_none, errW_some] <;> rfl) | (simp [*, errW_none, errW_some] <;> rfl), by repeat (first | (with_reducible first | exact HB.out | apply below_alloc | apply pw_below_drewN | apply below_drew1 | refine below_set ?_ GE246.out) | exact HB.out)⟩
          · rw [if_neg c6] at H
            have c6b0 : (((rd_T29 l0_0 x5_1).f2) == a1) = false := beq_eq_false_iff_ne.mpr c6
            have c6b1 : (((rd_T29 l0_0 x5_1).f2) != a1) = true := bne_iff_ne.mpr c6
            have H' := Aside0.mk H
            clear H
            have hcz8_0 : wr.cell? ⟨gb246, 0, none⟩ = some (.slice A0_0 l0_0.length c0_0) := (blk_cell BK246.out 0).trans rfl
            have hcz8_1 : wr.cell? ⟨gb246, 1, none⟩ = some (.int .i64 a0_1) := (blk_cell BK246.out 1).trans rfl
            have hfz8_0 := blk_frozen BK246.out 0
            have hfz8_1 := blk_frozen BK246.out 1
            have p247 : 0 ≤ (x5_1 : Int) := of_decide_eq_true (by first | (with_reducible assumption) | assumption)
            have q247 : x5_1 < (l0_0.length : Int) := of_decide_eq_true (by first | (with_reducible assumption) | assumption)
            obtain ⟨ad247, e247, hx247_0, hx247_1, hx247_2, hx247_3, hx247_4, hx247_5, hx247_6, hx247_7, hx247_8, hx247_9, hx247_10⟩ := at_T29 HR0_0.out x5_1 p247 q247
            cases e247
            replace hx247_0 := (HB.out.cell (World.block_lt_of_cell? w _ hx247_0)).trans hx247_0
            replace hx247_1 := (HB.out.cell (World.block_lt_of_cell? w _ hx247_1)).trans hx247_1
            replace hx247_2 := (HB.out.cell (World.block_lt_of_cell? w _ hx247_2)).trans hx247_2
            replace hx247_3 := (HB.out.cell (World.block_lt_of_cell? w _ hx247_3)).trans hx247_3
            replace hx247_4 := (HB.out.cell (World.block_lt_of_cell? w _ hx247_4)).trans hx247_4
            replace hx247_5 := (HB.out.cell (World.block_lt_of_cell? w _ hx247_5)).trans hx247_5
            replace hx247_6 := (HB.out.cell (World.block_lt_of_cell? w _ hx247_6)).trans hx247_6
            replace hx247_7 := (HB.out.cell (World.block_lt_of_cell? w _ hx247_7)).trans hx247_7
            replace hx247_8 := (HB.out.cell (World.block_lt_of_cell? w _ hx247_8)).trans hx247_8
            replace hx247_9 := (HB.out.cell (World.block_lt_of_cell? w _ hx247_9)).trans hx247_9
            replace hx247_10 := (HB.out.cell (World.block_lt_of_cell? w _ hx247_10)).trans hx247_10
            replace p247 := eq_true p247
            replace q247 := eq_true q247
            go_wp2
            go_roundg k1
            case measure => have := HK1.out; omega
            case rel => exact ⟨(wrap64 (x5_1 + 1)), (by first | rfl | (simp; done) | (simp [*]; done)), H', ⟨by have := HK1.out; omega⟩, ⟨by (with_reducible repeat (first | refine blk_drewN ?_ _ | refine blk_drew ?_ | refine blk_alloc ?_ _)); exact BK246.out⟩, ⟨by repeat (first | (with_reducible first | exact HB.out | apply below_alloc | apply pw_below_drewN | apply below_drew1 | refine below_set ?_ GE246.out) | exact HB.out)⟩⟩
        · rw [if_neg c5] at H
          exact absurd H (by simp)
      · rw [if_neg c4] at H
        have c4b0 : decide (x5_1 < (l0_0.length : Int)) = false := decide_eq_false c4
        clear c4
        obtain rfl := Option.some.inj H
        have hcz9_0 : wr.cell? ⟨gb246, 0, none⟩ = some (.slice A0_0 l0_0.length c0_0) := (blk_cell BK246.out 0).trans rfl
        have hcz9_1 : wr.cell? ⟨gb246, 1, none⟩ = some (.int .i64 a0_1) := (blk_cell BK246.out 1).trans rfl
        have hfz9_0 := blk_frozen BK246.out 0
        have hfz9_1 := blk_frozen BK246.out 1
        go_wp2
        go_ret
        exact ⟨by first | rfl | (simp [errW_none, errW_some] <;> rfl) | (simp [*, errW_none, errW_some] <;> rfl), by repeat (first | (with_reducible first | exact HB.out | apply below_alloc | apply pw_below_drewN | apply below_drew1 | refine below_set ?_ GE246.out) | exact HB.out)⟩

end Go.Proofs.Ytblooffiggciiaa.PPs
/- PPsx43 -/
namespace Go.Proofs.Ytblooffiggciiaa.PPs
open Go.RowKit Go.Proofs.YtblooffiggciiaaW.PrintWords Go.Proofs.YtblooffiggciiaaW.PrintLast Go.Proofs.YtblooffiggciiaaW.PrintMore
attribute [local go_sem] max2_int min2_int max_two min_two max_three min_three max_four min_four   -- for this text's walks alone
attribute [local go_sem] Go.Proofs.Ytblooffiggciiaa.Aid.isSome_setCell
mutual
def weftlineref14_Good.j0 : Nat → Bool → List (S29) → Int → Option (Bool)
  | 0, _, _, _ => none
  | k + 1, x26, x249000, x249001 => if x26 = true then (some false) else (weftlineref14_Good.l0 k 0 x249000 x249001)
def weftlineref14_Good.l0 : Nat → Int → List (S29) → Int → Option (Bool)
  | 0, _, _, _ => none
  | k + 1, x3, x249000, x249001 => if x3 < (x249000.length : Int) then (if 0 ≤ x3 then ((weftlineref13_Good.f k ((rd_T29 x249000 x3).f0.f0) ((rd_T29 x249000 x3).f0.f1) ((rd_T29 x249000 x3).f0.f2) ((rd_T29 x249000 x3).f0.f3) ((rd_T29 x249000 x3).f1.f0) ((rd_T29 x249000 x3).f1.f1) ((rd_T29 x249000 x3).f1.f2) ((rd_T29 x249000 x3).f2) ((rd_T29 x249000 x3).f3) ((rd_T29 x249000 x3).f4) ((rd_T29 x249000 x3).f5)).bind fun t250 => (if t250 = true then ((weftlineref14_find.f k x249000 x249001 ((rd_T29 x249000 x3).f2)).bind fun t252 => (if t252 < x3 then (some false) else (weftlineref14_Good.l0 k (wrap64 (x3 + 1)) x249000 x249001))) else (some false))) else (none)) else (some true)
end
def weftlineref14_Good.f (k : Nat) (l0_0 : List (S29)) (a0_1 : Int) : Option (Bool) := if (l0_0.length : Int) < 1 then (weftlineref14_Good.j0 k true l0_0 a0_1) else (if (l0_0.length : Int) > 4 then (weftlineref14_Good.j0 k true l0_0 a0_1) else (if a0_1 < 0 then (weftlineref14_Good.j0 k true l0_0 a0_1) else (weftlineref14_Good.j0 k (decide (a0_1 ≥ (l0_0.length : Int))) l0_0 a0_1)))
def weftlineref14_Good.T6 : Bool × List (List Nat × List Nat) := (true, [([], []), ([0], [0]), ([], []), ([1, 2], [1, 2]), ([3], [3]), ([4], [4]), ([5], [5]), ([6, 5], [6]), ([7], [7]), ([7], [7]), ([9, 7], [7, 9]), ([7], [7]), ([10, 11, 7], [7, 10, 11]), ([12, 7], [7, 12]), ([13, 7], [7, 13]), ([8, 14, 7, 7], [7, 8, 14]), ([7], [7]), ([15, 16, 7], [7, 15, 16]), ([7, 17], [7, 17])])
def weftlineref14_Good.B6 : List Nat := [0, 1, 0, 7, 15, 31, 63, 127, 255, 255, 767, 255, 3839, 7935, 16127, 32767, 255, 131071, 262143]
theorem weftlineref14_Good.tab6 : rtab .any (opsOf Try.f53 6) = weftlineref14_Good.T6 := by kernel_rfl
theorem weftlineref14_Good.bits6 : waitsOk weftlineref14_Good.T6.2 weftlineref14_Good.B6 = true := by kernel_rfl
set_option maxHeartbeats 8000000 in
set_option maxRecDepth 100000 in
theorem weftlineref14_Good.calls (k : Nat) (A0_0 : Option Addr) (c0_0 : Nat) (l0_0 : List (S29)) (a0_1 : Int) (r : Bool) (w : World) (hr0_0 : Kd.C k29 w A0_0 l0_0.length l0_0) (hc0_0 : l0_0.length ≤ c0_0) (h : weftlineref14_Good.f k l0_0 a0_1 = some r) :
    Calls Try.prog 53 #[.agg #[.slice A0_0 l0_0.length c0_0, .int .i64 a0_1]] w fun e w' => e = .returned (.bool r) ∧ Below w.heap.size w w' := by
  have hu66 := Try.underlying66
  have hu29 := Try.underlying29
  have HR0_0 := Aside0.mk hr0_0
  have HC0_0 := Aside0.mk hc0_0
  clear hr0_0 hc0_0
  have HB := Aside0.mk (Below.refl w.heap.size w)
  have H : (if (l0_0.length : Int) < 1 then (weftlineref14_Good.j0 k true l0_0 a0_1) else (if (l0_0.length : Int) > 4 then (weftlineref14_Good.j0 k true l0_0 a0_1) else (if a0_1 < 0 then (weftlineref14_Good.j0 k true l0_0 a0_1) else (weftlineref14_Good.j0 k (decide (a0_1 ≥ (l0_0.length : Int))) l0_0 a0_1)))) = some r := h
  clear h
  have HC2 := Aside0.mk H
  clear H
  go_enter Try.func53, Try.ntmps53
  go_upto_region 1 with (first | ((with_reducible refine gate_dst (N := 1) rfl ?_); (try (refine gate_guard (by rfl) ?_; dsimp only)); refine box_event ?hg (N := 1) ?hd (cs := #[.slice A0_0 l0_0.length c0_0, .int .i64 a0_1]) (t := 66) ?hr ?_; (case hd => rfl); (case hg => rfl); (case hr => first | (go_simp; done) | (go_simp; rfl)); intro gb248 hg w3 hbox hb; have n0_ := Aside0.mk (below_step (by repeat (first | (with_reducible first | exact HB.out | apply below_alloc | apply pw_below_drewN | apply below_drew1) | exact HB.out)) hb); have n1_ := Aside0.mk (hbox); have n2_ := Aside0.mk ((by rw [hg]; exact (below_size (by repeat (first | (with_reducible first | exact HB.out | apply below_alloc | apply pw_below_drewN | apply below_drew1) | exact HB.out))) : w.heap.size ≤ gb248)); have n3_ := Aside0.mk ((by rw [hg]; exact (below_size (by repeat (first | (with_reducible first | exact HB.out | apply below_alloc | apply pw_below_drewN | apply below_drew1) | exact HB.out))) : w.heap.size ≤ gb248)); clear HB; have HB := n0_; have BK248 := n1_; have GW248 := n2_; have GE248 := n3_; clear n0_ n1_ n2_ n3_; clear hb hbox hg))
  (try simp only [Act.put, List.setIfInBounds_toArray, List.set_cons_zero, List.set_cons_succ])
  go_cut [26] (fun v26 wc => ∃ (kq : Nat) (x26_1 : Bool), v26 = .bool x26_1 ∧ Aside0 (weftlineref14_Good.j0 kq x26_1 l0_0 a0_1 = some r) ∧ Aside0 (kq ≤ k) ∧ Aside0 (wc.heap[gb248]? = some (.cells #[(.slice A0_0 l0_0.length c0_0), .int .i64 a0_1] 66 (0, 0))) ∧ Aside0 (Below w.heap.size w wc))
  case first =>
    have H := HC2.out
    clear HC2
    by_cases c4 : (l0_0.length : Int) < 1
    · rw [if_pos c4] at H
      have c4b0 : decide ((l0_0.length : Int) < 1) = true := decide_eq_true c4
      have c4b1 : decide (l0_0.length < 1) = true := decide_eq_true (by omega)
      clear c4
      (first | rw [c4b0] | (simp only [i64_w, i32_w]; rw [c4b0]) | skip)
      have H' := Aside0.mk H
      clear H
      have hcz5_0 : w3.cell? ⟨gb248, 0, none⟩ = some (.slice A0_0 l0_0.length c0_0) := (blk_cell BK248.out 0).trans rfl
      have hcz5_1 : w3.cell? ⟨gb248, 1, none⟩ = some (.int .i64 a0_1) := (blk_cell BK248.out 1).trans rfl
      have hfz5_0 := blk_frozen BK248.out 0
      have hfz5_1 := blk_frozen BK248.out 1
      go_wp2
      go_meet
      case rel => exact ⟨_, (true), (by first | rfl | (simp; done) | (simp [*]; done)), H', ⟨by first | omega | exact Nat.le_refl _⟩, ⟨by (with_reducible repeat (first | refine blk_drewN ?_ _ | refine blk_drew ?_ | refine blk_alloc ?_ _)); exact BK248.out⟩, ⟨by repeat (first | (with_reducible first | exact HB.out | apply below_alloc | apply pw_below_drewN | apply below_drew1 | refine below_set ?_ GE248.out) | exact HB.out)⟩⟩
    · rw [if_neg c4] at H
      have c4b0 : decide ((l0_0.length : Int) < 1) = false := decide_eq_false c4
      have c4b1 : decide (l0_0.length < 1) = false := decide_eq_false (by omega)
      clear c4
      (first | rw [c4b0] | (simp only [i64_w, i32_w]; rw [c4b0]) | skip)
      by_cases c6 : (l0_0.length : Int) > 4
      · rw [if_pos c6] at H
        have c6b0 : decide (4 < (l0_0.length : Int)) = true := decide_eq_true c6
        have c6b1 : decide (4 < l0_0.length) = true := decide_eq_true (by omega)
        clear c6
        have H' := Aside0.mk H
        clear H
        have hcz7_0 : w3.cell? ⟨gb248, 0, none⟩ = some (.slice A0_0 l0_0.length c0_0) := (blk_cell BK248.out 0).trans rfl
        have hcz7_1 : w3.cell? ⟨gb248, 1, none⟩ = some (.int .i64 a0_1) := (blk_cell BK248.out 1).trans rfl
        have hfz7_0 := blk_frozen BK248.out 0
        have hfz7_1 := blk_frozen BK248.out 1
        go_wp2
        go_meet
        case rel => exact ⟨_, (true), (by first | rfl | (simp; done) | (simp [*]; done)), H', ⟨by first | omega | exact Nat.le_refl _⟩, ⟨by (with_reducible repeat (first | refine blk_drewN ?_ _ | refine blk_drew ?_ | refine blk_alloc ?_ _)); exact BK248.out⟩, ⟨by repeat (first | (with_reducible first | exact HB.out | apply below_alloc | apply pw_below_drewN | apply below_drew1 | refine below_set ?_ GE248.out) | exact HB.out)⟩⟩
      · rw [if_neg c6] at H
        have c6b0 : decide (4 < (l0_0.length : Int)) = false := decide_eq_false c6
        have c6b1 : decide (4 < l0_0.length) = false := decide_eq_false (by omega)
        clear c6
        by_cases c8 : a0_1 < 0
        · rw [if_pos c8] at H
          have c8b0 : decide (a0_1 < 0) = true := decide_eq_true c8
          clear c8
          have H' := Aside0.mk H
          clear H
          have hcz9_0 : w3.cell? ⟨gb248, 0, none⟩ = some (.slice A0_0 l0_0.length c0_0) := (blk_cell BK248.out 0).trans rfl
          have hcz9_1 : w3.cell? ⟨gb248, 1, none⟩ = some (.int .i64 a0_1) := (blk_cell BK248.out 1).trans rfl
          have hfz9_0 := blk_frozen BK248.out 0
          have hfz9_1 := blk_frozen BK248.out 1
          go_wp2
          go_meet
          case rel => exact ⟨_, (true), (by first | rfl | (simp; done) | (simp [*]; done)), H', ⟨by first | omega | exact Nat.le_refl _⟩, ⟨by (with_reducible repeat (first | refine blk_drewN ?_ _ | refine blk_drew ?_ | refine blk_alloc ?_ _)); exact BK248.out⟩, ⟨by repeat (first | (with_reducible first | exact HB.out | apply below_alloc | apply pw_below_drewN | apply below_drew1 | refine below_set ?_ GE248.out) | exact HB.out)⟩⟩
        · rw [if_neg c8] at H
          have c8b0 : decide (a0_1 < 0) = false := decide_eq_false c8
          clear c8
          have H' := Aside0.mk H
          clear H
          have hcz10_0 : w3.cell? ⟨gb248, 0, none⟩ = some (.slice A0_0 l0_0.length c0_0) := (blk_cell BK248.out 0).trans rfl
          have hcz10_1 : w3.cell? ⟨gb248, 1, none⟩ = some (.int .i64 a0_1) := (blk_cell BK248.out 1).trans rfl
          have hfz10_0 := blk_frozen BK248.out 0
          have hfz10_1 := blk_frozen BK248.out 1
          go_wp2
          go_meet
          case rel => exact ⟨_, (decide (a0_1 ≥ (l0_0.length : Int))), (by first | rfl | (simp; done) | (simp [*]; done)), H', ⟨by first | omega | exact Nat.le_refl _⟩, ⟨by (with_reducible repeat (first | refine blk_drewN ?_ _ | refine blk_drew ?_ | refine blk_alloc ?_ _)); exact BK248.out⟩, ⟨by repeat (first | (with_reducible first | exact HB.out | apply below_alloc | apply pw_below_drewN | apply below_drew1 | refine below_set ?_ GE248.out) | exact HB.out)⟩⟩
  case rest =>
    clear HC2
    try clear p2
    try clear c4
    try clear c4b0
    try clear c4b1
    try clear c5
    try clear c6
    try clear c6b0
    try clear c6b1
    try clear c8
    try clear c8b0
    try clear hcz10_0
    try clear hcz10_1
    try clear hcz5_0
    try clear hcz5_1
    try clear hcz7_0
    try clear hcz7_1
    try clear hcz9_0
    try clear hcz9_1
    try clear hfz10_0
    try clear hfz10_1
    try clear hfz5_0
    try clear hfz5_1
    try clear hfz7_0
    try clear hfz7_1
    try clear hfz9_0
    try clear hfz9_1
    obtain ⟨kq, x26_1, rfl, HA, HJ1, BK248, HB⟩ := hcut
    cases kq with
    | zero => exact absurd HA.out (by simp [weftlineref14_Good.j0])
    | succ kj1 =>
      have H := HA.out
      clear HA
      simp only [weftlineref14_Good.j0] at H
      by_cases c11 : x26_1 = true
      · subst c11
        have H1 : (some false) = some r := by rw [if_pos rfl] at H; exact H
        clear H
        have H := H1
        clear H1
        obtain rfl := Option.some.inj H
        go_wp2
        go_ret
        exact ⟨by first | rfl | (simp [errW_none, errW_some] <;> rfl) | (simp [*, errW_none, errW_some] <;> rfl), by repeat (first | (with_reducible first | exact HB.out | apply below_alloc | apply pw_below_drewN | apply below_drew1 | refine below_set ?_ GE248.out) | exact HB.out)⟩
      · replace c11 := Bool.eq_false_iff.mpr c11
        subst c11
        have H1 : (weftlineref14_Good.l0 kj1 0 l0_0 a0_1) = some r := by rw [if_neg (show ¬ (false = true) by decide)] at H; exact H
        clear H
        have H := H1
        clear H1
        have H' := Aside0.mk H
        clear H
        go_wp2
        go_loopg [3] kj1 (fun kq v3 w' => ∃ (x3_2 : Int), v3 = .int .i64 x3_2 ∧ Aside0 (weftlineref14_Good.l0 kq x3_2 l0_0 a0_1 = some r) ∧ Aside0 (kq ≤ kj1) ∧ Aside0 (w'.heap[gb248]? = some (.cells #[(.slice A0_0 l0_0.length c0_0), .int .i64 a0_1] 66 (0, 0))) ∧ Aside0 (Below w.heap.size w w'))
        case atStart => exact ⟨(0), (by first | rfl | (simp; done) | (simp [*]; done)), H', ⟨Nat.le_refl _⟩, ⟨by (with_reducible repeat (first | refine blk_drewN ?_ _ | refine blk_drew ?_ | refine blk_alloc ?_ _)); exact BK248.out⟩, ⟨by repeat (first | (with_reducible first | exact HB.out | apply below_alloc | apply pw_below_drewN | apply below_drew1 | refine below_set ?_ GE248.out) | exact HB.out)⟩⟩
        case round =>
          clear H'
          try clear c1
          try clear p2
          try clear c4
          try clear c4b0
          try clear c4b1
          try clear c5
          try clear c6
          try clear c6b0
          try clear c6b1
          try clear c8
          try clear c8b0
          try clear c11
          try clear hcz10_0
          try clear hcz10_1
          try clear hcz5_0
          try clear hcz5_1
          try clear hcz7_0
          try clear hcz7_1
          try clear hcz9_0
          try clear hcz9_1
          try clear hfz10_0
          try clear hfz10_1
          try clear hfz5_0
          try clear hfz5_1
          try clear hfz7_0
          try clear hfz7_1
          try clear hfz9_0
          try clear hfz9_1
          try clear p2
          obtain ⟨x3_2, rfl, HA, HK2, BK248, HB⟩ := hrel
          cases gk with
          | zero => exact absurd HA.out (by simp [weftlineref14_Good.l0])
          | succ k2 =>
            have H := HA.out
            clear HA
            simp only [weftlineref14_Good.l0] at H
            by_cases c12 : x3_2 < (l0_0.length : Int)
            · rw [if_pos c12] at H
              have c12b0 : decide (x3_2 < (l0_0.length : Int)) = true := decide_eq_true c12
              clear c12
              by_cases c13 : 0 ≤ x3_2
              · rw [if_pos c13] at H
                have c13b0 : decide (0 ≤ x3_2) = true := decide_eq_true c13
                clear c13
                replace H := Option.bind_eq_some_iff.mp H
                obtain ⟨t250, A140, H⟩ := H
                replace H : (if t250 = true then ((weftlineref14_find.f k2 l0_0 a0_1 ((rd_T29 l0_0 x3_2).f2)).bind fun t252 => (if t252 < x3_2 then (some false) else (weftlineref14_Good.l0 k2 (wrap64 (x3_2 + 1)) l0_0 a0_1))) else (some false)) = some r := H
                have A14 := Aside0.mk A140
                clear A140
                by_cases c15 : t250 = true
                · subst c15
                  have H1 : ((weftlineref14_find.f k2 l0_0 a0_1 ((rd_T29 l0_0 x3_2).f2)).bind fun t252 => (if t252 < x3_2 then (some false) else (weftlineref14_Good.l0 k2 (wrap64 (x3_2 + 1)) l0_0 a0_1))) = some r := by rw [if_pos rfl] at H; exact H
                  clear H
                  have H := H1
                  clear H1
                  replace H := Option.bind_eq_some_iff.mp H
                  obtain ⟨t252, A160, H⟩ := H
                  replace H : (if t252 < x3_2 then (some false) else (weftlineref14_Good.l0 k2 (wrap64 (x3_2 + 1)) l0_0 a0_1)) = some r := H
                  have A16 := Aside0.mk A160
                  clear A160
                  by_cases c17 : t252 < x3_2
                  · rw [if_pos c17] at H
                    have c17b0 : decide (t252 < x3_2) = true := decide_eq_true c17
                    clear c17
                    obtain rfl := Option.some.inj H
                    have hcz18_0 : wr.cell? ⟨gb248, 0, none⟩ = some (.slice A0_0 l0_0.length c0_0) := (blk_cell BK248.out 0).trans rfl
                    have hcz18_1 : wr.cell? ⟨gb248, 1, none⟩ = some (.int .i64 a0_1) := (blk_cell BK248.out 1).trans rfl
                    have hfz18_0 := blk_frozen BK248.out 0
                    have hfz18_1 := blk_frozen BK248.out 1
                    try go_wp2
                    have n0_ := Aside0.mk (blk_drew BK248.out)
                    have n1_ := Aside0.mk (below_drew1 HB.out)
                    clear BK248
                    clear HB
                    have BK248 := n0_
                    have HB := n1_
                    clear n0_ n1_
                    have p249 : 0 ≤ (x3_2 : Int) := of_decide_eq_true (by first | (with_reducible assumption) | assumption)
                    have q249 : x3_2 < (l0_0.length : Int) := of_decide_eq_true (by first | (with_reducible assumption) | assumption)
                    obtain ⟨ad249, e249, hx249_0, hx249_1, hx249_2, hx249_3, hx249_4, hx249_5, hx249_6, hx249_7, hx249_8, hx249_9, hx249_10⟩ := at_T29 HR0_0.out x3_2 p249 q249
                    have hw249_10 := hx249_10
                    have hw249_9 := hx249_9
                    have hw249_8 := hx249_8
                    have hw249_7 := hx249_7
                    have hw249_6 := hx249_6
                    have hw249_5 := hx249_5
                    have hw249_4 := hx249_4
                    have hw249_3 := hx249_3
                    have hw249_2 := hx249_2
                    have hw249_1 := hx249_1
                    have hw249_0 := hx249_0
                    cases e249
                    replace hx249_0 := (HB.out.cell (World.block_lt_of_cell? w _ hx249_0)).trans hx249_0
                    replace hx249_1 := (HB.out.cell (World.block_lt_of_cell? w _ hx249_1)).trans hx249_1
                    replace hx249_2 := (HB.out.cell (World.block_lt_of_cell? w _ hx249_2)).trans hx249_2
                    replace hx249_3 := (HB.out.cell (World.block_lt_of_cell? w _ hx249_3)).trans hx249_3
                    replace hx249_4 := (HB.out.cell (World.block_lt_of_cell? w _ hx249_4)).trans hx249_4
                    replace hx249_5 := (HB.out.cell (World.block_lt_of_cell? w _ hx249_5)).trans hx249_5
                    replace hx249_6 := (HB.out.cell (World.block_lt_of_cell? w _ hx249_6)).trans hx249_6
                    replace hx249_7 := (HB.out.cell (World.block_lt_of_cell? w _ hx249_7)).trans hx249_7
                    replace hx249_8 := (HB.out.cell (World.block_lt_of_cell? w _ hx249_8)).trans hx249_8
                    replace hx249_9 := (HB.out.cell (World.block_lt_of_cell? w _ hx249_9)).trans hx249_9
                    replace hx249_10 := (HB.out.cell (World.block_lt_of_cell? w _ hx249_10)).trans hx249_10
                    replace p249 := eq_true p249
                    replace q249 := eq_true q249
                    have p251 : 0 ≤ (x3_2 : Int) := of_decide_eq_true (by first | (with_reducible assumption) | assumption)
                    have q251 : x3_2 < (l0_0.length : Int) := of_decide_eq_true (by first | (with_reducible assumption) | assumption)
                    obtain ⟨ad251, e251, hx251_0, hx251_1, hx251_2, hx251_3, hx251_4, hx251_5, hx251_6, hx251_7, hx251_8, hx251_9, hx251_10⟩ := at_T29 HR0_0.out x3_2 p251 q251
                    have hw251_10 := hx251_10
                    have hw251_9 := hx251_9
                    have hw251_8 := hx251_8
                    have hw251_7 := hx251_7
                    have hw251_6 := hx251_6
                    have hw251_5 := hx251_5
                    have hw251_4 := hx251_4
                    have hw251_3 := hx251_3
                    have hw251_2 := hx251_2
                    have hw251_1 := hx251_1
                    have hw251_0 := hx251_0
                    obtain rfl : ad249 = ad251 := (by injection e251)
                    replace hx251_0 := (HB.out.cell (World.block_lt_of_cell? w _ hx251_0)).trans hx251_0
                    replace hx251_1 := (HB.out.cell (World.block_lt_of_cell? w _ hx251_1)).trans hx251_1
                    replace hx251_2 := (HB.out.cell (World.block_lt_of_cell? w _ hx251_2)).trans hx251_2
                    replace hx251_3 := (HB.out.cell (World.block_lt_of_cell? w _ hx251_3)).trans hx251_3
                    replace hx251_4 := (HB.out.cell (World.block_lt_of_cell? w _ hx251_4)).trans hx251_4
                    replace hx251_5 := (HB.out.cell (World.block_lt_of_cell? w _ hx251_5)).trans hx251_5
                    replace hx251_6 := (HB.out.cell (World.block_lt_of_cell? w _ hx251_6)).trans hx251_6
                    replace hx251_7 := (HB.out.cell (World.block_lt_of_cell? w _ hx251_7)).trans hx251_7
                    replace hx251_8 := (HB.out.cell (World.block_lt_of_cell? w _ hx251_8)).trans hx251_8
                    replace hx251_9 := (HB.out.cell (World.block_lt_of_cell? w _ hx251_9)).trans hx251_9
                    replace hx251_10 := (HB.out.cell (World.block_lt_of_cell? w _ hx251_10)).trans hx251_10
                    replace p251 := eq_true p251
                    replace q251 := eq_true q251
                    refine start_ (n := 19) (S := fun w' => w'.cell? ⟨gb248, 0, none⟩ = some (.slice (some ad249) l0_0.length c0_0) ∧ w'.cell? ⟨gb248, 1, none⟩ = some (.int .i64 a0_1) ∧ w'.cell? (ad249.add ((x3_2).toNat * 11)) = some (.int .i64 ((rd_T29 l0_0 x3_2).f0.f0)) ∧ w'.cell? ⟨(ad249.add ((x3_2).toNat * 11)).block, (ad249.add ((x3_2).toNat * 11)).off + 1, none⟩ = some (.int .i64 ((rd_T29 l0_0 x3_2).f0.f1)) ∧ w'.cell? ⟨(ad249.add ((x3_2).toNat * 11)).block, (ad249.add ((x3_2).toNat * 11)).off + 2, none⟩ = some (.int .i64 ((rd_T29 l0_0 x3_2).f0.f2)) ∧ w'.cell? ⟨(ad249.add ((x3_2).toNat * 11)).block, (ad249.add ((x3_2).toNat * 11)).off + 3, none⟩ = some (.bool ((rd_T29 l0_0 x3_2).f0.f3)) ∧ w'.cell? ⟨(ad249.add ((x3_2).toNat * 11)).block, (ad249.add ((x3_2).toNat * 11)).off + 4, none⟩ = some (.int .i64 ((rd_T29 l0_0 x3_2).f1.f0)) ∧ w'.cell? ⟨(ad249.add ((x3_2).toNat * 11)).block, (ad249.add ((x3_2).toNat * 11)).off + 5, none⟩ = some (.int .i64 ((rd_T29 l0_0 x3_2).f1.f1)) ∧ w'.cell? ⟨(ad249.add ((x3_2).toNat * 11)).block, (ad249.add ((x3_2).toNat * 11)).off + 6, none⟩ = some (.int .i64 ((rd_T29 l0_0 x3_2).f1.f2)) ∧ w'.cell? ⟨(ad249.add ((x3_2).toNat * 11)).block, (ad249.add ((x3_2).toNat * 11)).off + 7, none⟩ = some (.int .i64 ((rd_T29 l0_0 x3_2).f2)) ∧ w'.cell? ⟨(ad249.add ((x3_2).toNat * 11)).block, (ad249.add ((x3_2).toNat * 11)).off + 8, none⟩ = some (.int .i64 ((rd_T29 l0_0 x3_2).f3)) ∧ w'.cell? ⟨(ad249.add ((x3_2).toNat * 11)).block, (ad249.add ((x3_2).toNat * 11)).off + 9, none⟩ = some (.int .u32 ((rd_T29 l0_0 x3_2).f4)) ∧ w'.cell? ⟨(ad249.add ((x3_2).toNat * 11)).block, (ad249.add ((x3_2).toNat * 11)).off + 10, none⟩ = some (.int .i64 ((rd_T29 l0_0 x3_2).f5)) ∧ w'.cell? (ad249.add ((x3_2).toNat * 11)) = some (.int .i64 ((rd_T29 l0_0 x3_2).f0.f0)) ∧ w'.cell? ⟨(ad249.add ((x3_2).toNat * 11)).block, (ad249.add ((x3_2).toNat * 11)).off + 1, none⟩ = some (.int .i64 ((rd_T29 l0_0 x3_2).f0.f1)) ∧ w'.cell? ⟨(ad249.add ((x3_2).toNat * 11)).block, (ad249.add ((x3_2).toNat * 11)).off + 2, none⟩ = some (.int .i64 ((rd_T29 l0_0 x3_2).f0.f2)) ∧ w'.cell? ⟨(ad249.add ((x3_2).toNat * 11)).block, (ad249.add ((x3_2).toNat * 11)).off + 3, none⟩ = some (.bool ((rd_T29 l0_0 x3_2).f0.f3)) ∧ w'.cell? ⟨(ad249.add ((x3_2).toNat * 11)).block, (ad249.add ((x3_2).toNat * 11)).off + 4, none⟩ = some (.int .i64 ((rd_T29 l0_0 x3_2).f1.f0)) ∧ w'.cell? ⟨(ad249.add ((x3_2).toNat * 11)).block, (ad249.add ((x3_2).toNat * 11)).off + 5, none⟩ = some (.int .i64 ((rd_T29 l0_0 x3_2).f1.f1)) ∧ w'.cell? ⟨(ad249.add ((x3_2).toNat * 11)).block, (ad249.add ((x3_2).toNat * 11)).off + 6, none⟩ = some (.int .i64 ((rd_T29 l0_0 x3_2).f1.f2)) ∧ w'.cell? ⟨(ad249.add ((x3_2).toNat * 11)).block, (ad249.add ((x3_2).toNat * 11)).off + 7, none⟩ = some (.int .i64 ((rd_T29 l0_0 x3_2).f2)) ∧ w'.cell? ⟨(ad249.add ((x3_2).toNat * 11)).block, (ad249.add ((x3_2).toNat * 11)).off + 8, none⟩ = some (.int .i64 ((rd_T29 l0_0 x3_2).f3)) ∧ w'.cell? ⟨(ad249.add ((x3_2).toNat * 11)).block, (ad249.add ((x3_2).toNat * 11)).off + 9, none⟩ = some (.int .u32 ((rd_T29 l0_0 x3_2).f4)) ∧ w'.cell? ⟨(ad249.add ((x3_2).toNat * 11)).block, (ad249.add ((x3_2).toNat * 11)).off + 10, none⟩ = some (.int .i64 ((rd_T29 l0_0 x3_2).f5))) (ds := []) #[false, false, false, false, false, false, false, false, false, false, false, false, false, false, false, false, false, false, false] (by kernel_rfl) rfl rfl ⟨(blk_cell BK248.out 0).trans rfl, (blk_cell BK248.out 1).trans rfl, ((HB.out.cell (World.block_lt_of_cell? w _ hw249_0)).trans hw249_0), ((HB.out.cell (World.block_lt_of_cell? w _ hw249_1)).trans hw249_1), ((HB.out.cell (World.block_lt_of_cell? w _ hw249_2)).trans hw249_2), ((HB.out.cell (World.block_lt_of_cell? w _ hw249_3)).trans hw249_3), ((HB.out.cell (World.block_lt_of_cell? w _ hw249_4)).trans hw249_4), ((HB.out.cell (World.block_lt_of_cell? w _ hw249_5)).trans hw249_5), ((HB.out.cell (World.block_lt_of_cell? w _ hw249_6)).trans hw249_6), ((HB.out.cell (World.block_lt_of_cell? w _ hw249_7)).trans hw249_7), ((HB.out.cell (World.block_lt_of_cell? w _ hw249_8)).trans hw249_8), ((HB.out.cell (World.block_lt_of_cell? w _ hw249_9)).trans hw249_9), ((HB.out.cell (World.block_lt_of_cell? w _ hw249_10)).trans hw249_10), ((HB.out.cell (World.block_lt_of_cell? w _ hw251_0)).trans hw251_0), ((HB.out.cell (World.block_lt_of_cell? w _ hw251_1)).trans hw251_1), ((HB.out.cell (World.block_lt_of_cell? w _ hw251_2)).trans hw251_2), ((HB.out.cell (World.block_lt_of_cell? w _ hw251_3)).trans hw251_3), ((HB.out.cell (World.block_lt_of_cell? w _ hw251_4)).trans hw251_4), ((HB.out.cell (World.block_lt_of_cell? w _ hw251_5)).trans hw251_5), ((HB.out.cell (World.block_lt_of_cell? w _ hw251_6)).trans hw251_6), ((HB.out.cell (World.block_lt_of_cell? w _ hw251_7)).trans hw251_7), ((HB.out.cell (World.block_lt_of_cell? w _ hw251_8)).trans hw251_8), ((HB.out.cell (World.block_lt_of_cell? w _ hw251_9)).trans hw251_9), ((HB.out.cell (World.block_lt_of_cell? w _ hw251_10)).trans hw251_10)⟩ (fun hHeld => ?_); refine with_tabW weftlineref14_Good.tab6 weftlineref14_Good.bits6 (fun HT_ HW_ => ?_)
                    generalize wr.drew = w19 at BK248 HB hx249_0 hx249_1 hx249_10 hx249_2 hx249_3 hx249_4 hx249_5 hx249_6 hx249_7 hx249_8 hx249_9 hx251_0 hx251_1 hx251_10 hx251_2 hx251_3 hx251_4 hx251_5 hx251_6 hx251_7 hx251_8 hx251_9 hHeld ⊢
                    refine pure_ (i := 0) (N := some 34) (v := ?_) (a' := ?_) #[true, false, false, false, false, false, false, false, false, false, false, false, false, false, false, false, false, false, false] rfl rfl (any_of HT_.out (by kernel_rfl)) (fun _ _ _ h => h) (Or.inl ⟨by rfl, ?_⟩) ?_ ?_
                    rotate_left
                    · intro w'
                      go_simp
                      with_reducible rfl
                    rotate_left
                    · simp only [Act.put, List.setIfInBounds_toArray, List.set_cons_zero, List.set_cons_succ, i64_w, i32_w]
                      rfl
                    refine pure_ (i := 2) (N := some 36) (v := ?_) (a' := ?_) #[true, false, true, false, false, false, false, false, false, false, false, false, false, false, false, false, false, false, false] rfl rfl (any_of HT_.out (by kernel_rfl)) (fun _ _ _ h => h) (Or.inl ⟨by rfl, ?_⟩) ?_ ?_
                    rotate_left
                    · intro w'
                      go_simp
                      with_reducible rfl
                    rotate_left
                    · simp only [Act.put, List.setIfInBounds_toArray, List.set_cons_zero, List.set_cons_succ, i64_w, i32_w]
                      rfl
                    refine take_ (i := 1) (N := some 35) (v := ?_) (a' := ?_) #[true, true, true, false, false, false, false, false, false, false, false, false, false, false, false, false, false, false, false] rfl rfl (take_ofW HT_.out HW_.out (by kernel_rfl)) (fun _ _ _ h => h) (Or.inl ⟨by rfl, ?_⟩) hHeld ?_ ?_
                    rotate_left
                    · rintro w' ⟨s0, s1, s2, s3, s4, s5, s6, s7, s8, s9, s10, s11, s12, s13, s14, s15, s16, s17, s18, s19, s20, s21, s22, s23⟩
                      go_simp
                      with_reducible rfl
                    rotate_left
                    · simp only [Act.put, List.setIfInBounds_toArray, List.set_cons_zero, List.set_cons_succ, i64_w, i32_w]
                      rfl
                    refine pure_ (i := 3) (N := some 37) (v := ?_) (a' := ?_) #[true, true, true, true, false, false, false, false, false, false, false, false, false, false, false, false, false, false, false] rfl rfl (any_of HT_.out (by kernel_rfl)) (fun _ _ _ h => h) (Or.inl ⟨by rfl, ?_⟩) ?_ ?_
                    rotate_left
                    · intro w'
                      go_simp
                      with_reducible rfl
                    rotate_left
                    · simp only [Act.put, List.setIfInBounds_toArray, List.set_cons_zero, List.set_cons_succ, i64_w, i32_w]
                      rfl
                    refine take_ (i := 4) (N := some 38) (v := ?_) (a' := ?_) #[true, true, true, true, true, false, false, false, false, false, false, false, false, false, false, false, false, false, false] rfl rfl (take_ofW HT_.out HW_.out (by kernel_rfl)) (fun _ _ _ h => h) (Or.inl ⟨by rfl, ?_⟩) hHeld ?_ ?_
                    rotate_left
                    · rintro w' ⟨s0, s1, s2, s3, s4, s5, s6, s7, s8, s9, s10, s11, s12, s13, s14, s15, s16, s17, s18, s19, s20, s21, s22, s23⟩
                      go_simp
                      with_reducible rfl
                    rotate_left
                    · simp only [Act.put, List.setIfInBounds_toArray, List.set_cons_zero, List.set_cons_succ, i64_w, i32_w]
                      rfl
                    refine one_ (i := 5) (N := some 39) #[true, true, true, true, true, true, false, false, false, false, false, false, false, false, false, false, false, false, false] rfl rfl (one_of HT_.out (by kernel_rfl)) (by decide) (fun K hK => ?_)
                    refine goes_ Try.func19 (by kernel_rfl) rfl #[.agg #[.int .i64 ((rd_T29 l0_0 x3_2).f0.f0), .int .i64 ((rd_T29 l0_0 x3_2).f0.f1), .int .i64 ((rd_T29 l0_0 x3_2).f0.f2), .bool ((rd_T29 l0_0 x3_2).f0.f3), .int .i64 ((rd_T29 l0_0 x3_2).f1.f0), .int .i64 ((rd_T29 l0_0 x3_2).f1.f1), .int .i64 ((rd_T29 l0_0 x3_2).f1.f2), .int .i64 ((rd_T29 l0_0 x3_2).f2), .int .i64 ((rd_T29 l0_0 x3_2).f3), .int .u32 ((rd_T29 l0_0 x3_2).f4), .int .i64 ((rd_T29 l0_0 x3_2).f5)]] (by rfl) rfl rfl (by (try simp only [List.map_toArray, List.map_cons, List.map_nil]); first | done | rfl | (simp only [List.length_drop, List.length_take]; rfl)) ?_
                    with_reducible refine (weftlineref13_Good.calls k2 ((rd_T29 l0_0 x3_2).f0.f0) ((rd_T29 l0_0 x3_2).f0.f1) ((rd_T29 l0_0 x3_2).f0.f2) ((rd_T29 l0_0 x3_2).f0.f3) ((rd_T29 l0_0 x3_2).f1.f0) ((rd_T29 l0_0 x3_2).f1.f1) ((rd_T29 l0_0 x3_2).f1.f2) ((rd_T29 l0_0 x3_2).f2) ((rd_T29 l0_0 x3_2).f3) ((rd_T29 l0_0 x3_2).f4) ((rd_T29 l0_0 x3_2).f5) true _ A14.out).mono ?_
                    rintro e w20 ⟨rfl, hb⟩
                    refine ⟨_, rfl, ?_⟩
                    have n0_ := Aside0.mk (blk_below (g := gb248) (o := .cells #[.slice (some ad249) l0_0.length c0_0, .int .i64 a0_1] 66 (0, 0)) (by (with_reducible repeat (first | refine blk_drewN ?_ _ | refine blk_drew ?_ | refine blk_alloc ?_ _)); exact BK248.out) hb)
                    have n1_ := Aside0.mk (below_step (by repeat (first | (with_reducible first | exact HB.out | apply below_alloc | apply pw_below_drewN | apply below_drew1 | refine below_set ?_ GE248.out) | exact HB.out)) hb)
                    clear BK248
                    clear HB
                    have BK248 := n0_
                    have HB := n1_
                    clear n0_ n1_
                    (try clear hb)
                    (try clear hb2)
                    (try clear hk)
                    (try clear hi)
                    refine hK.out _ _ ⟨(blk_cell BK248.out 0).trans rfl, (blk_cell BK248.out 1).trans rfl, ((HB.out.cell (World.block_lt_of_cell? w _ hw249_0)).trans hw249_0), ((HB.out.cell (World.block_lt_of_cell? w _ hw249_1)).trans hw249_1), ((HB.out.cell (World.block_lt_of_cell? w _ hw249_2)).trans hw249_2), ((HB.out.cell (World.block_lt_of_cell? w _ hw249_3)).trans hw249_3), ((HB.out.cell (World.block_lt_of_cell? w _ hw249_4)).trans hw249_4), ((HB.out.cell (World.block_lt_of_cell? w _ hw249_5)).trans hw249_5), ((HB.out.cell (World.block_lt_of_cell? w _ hw249_6)).trans hw249_6), ((HB.out.cell (World.block_lt_of_cell? w _ hw249_7)).trans hw249_7), ((HB.out.cell (World.block_lt_of_cell? w _ hw249_8)).trans hw249_8), ((HB.out.cell (World.block_lt_of_cell? w _ hw249_9)).trans hw249_9), ((HB.out.cell (World.block_lt_of_cell? w _ hw249_10)).trans hw249_10), ((HB.out.cell (World.block_lt_of_cell? w _ hw251_0)).trans hw251_0), ((HB.out.cell (World.block_lt_of_cell? w _ hw251_1)).trans hw251_1), ((HB.out.cell (World.block_lt_of_cell? w _ hw251_2)).trans hw251_2), ((HB.out.cell (World.block_lt_of_cell? w _ hw251_3)).trans hw251_3), ((HB.out.cell (World.block_lt_of_cell? w _ hw251_4)).trans hw251_4), ((HB.out.cell (World.block_lt_of_cell? w _ hw251_5)).trans hw251_5), ((HB.out.cell (World.block_lt_of_cell? w _ hw251_6)).trans hw251_6), ((HB.out.cell (World.block_lt_of_cell? w _ hw251_7)).trans hw251_7), ((HB.out.cell (World.block_lt_of_cell? w _ hw251_8)).trans hw251_8), ((HB.out.cell (World.block_lt_of_cell? w _ hw251_9)).trans hw251_9), ((HB.out.cell (World.block_lt_of_cell? w _ hw251_10)).trans hw251_10)⟩ (fun hHeld => ?_)
                    clear hK K
                    refine norm_ (a' := ?_) ?_ ?_
                    rotate_left
                    · show Act.put _ (some 39) _ = _
                      simp only [Act.put, List.setIfInBounds_toArray, List.set_cons_zero, List.set_cons_succ, i64_w, i32_w]
                      rfl
                    refine pure_ (i := 6) (N := some 40) (v := ?_) (a' := ?_) #[true, true, true, true, true, true, true, false, false, false, false, false, false, false, false, false, false, false, false] rfl rfl (any_of HT_.out (by kernel_rfl)) (fun _ _ _ h => h) (Or.inl ⟨by rfl, ?_⟩) ?_ ?_
                    rotate_left
                    · intro w'
                      go_simp
                      with_reducible rfl
                    rotate_left
                    · simp only [Act.put, List.setIfInBounds_toArray, List.set_cons_zero, List.set_cons_succ, i64_w, i32_w]
                      rfl
                    refine pure_ (i := 7) (N := some 41) (v := ?_) (a' := ?_) #[true, true, true, true, true, true, true, true, false, false, false, false, false, false, false, false, false, false, false] rfl rfl (any_of HT_.out (by kernel_rfl)) (fun _ _ _ h => h) (Or.inl ⟨by rfl, ?_⟩) ?_ ?_
                    rotate_left
                    · intro w'
                      go_simp
                      with_reducible rfl
                    rotate_left
                    · simp only [Act.put, List.setIfInBounds_toArray, List.set_cons_zero, List.set_cons_succ, i64_w, i32_w]
                      rfl
                    refine pure_ (i := 9) (N := some 43) (v := ?_) (a' := ?_) #[true, true, true, true, true, true, true, true, false, true, false, false, false, false, false, false, false, false, false] rfl rfl (any_of HT_.out (by kernel_rfl)) (fun _ _ _ h => h) (Or.inl ⟨by rfl, ?_⟩) ?_ ?_
                    rotate_left
                    · intro w'
                      go_simp
                      with_reducible rfl
                    rotate_left
                    · simp only [Act.put, List.setIfInBounds_toArray, List.set_cons_zero, List.set_cons_succ, i64_w, i32_w]
                      rfl
                    refine pure_ (i := 11) (N := some 45) (v := ?_) (a' := ?_) #[true, true, true, true, true, true, true, true, false, true, false, true, false, false, false, false, false, false, false] rfl rfl (any_of HT_.out (by kernel_rfl)) (fun _ _ _ h => h) (Or.inl ⟨by rfl, ?_⟩) ?_ ?_
                    rotate_left
                    · intro w'
                      go_simp
                      with_reducible rfl
                    rotate_left
                    · simp only [Act.put, List.setIfInBounds_toArray, List.set_cons_zero, List.set_cons_succ, i64_w, i32_w]
                      rfl
                    refine pure_ (i := 16) (N := some 50) (v := ?_) (a' := ?_) #[true, true, true, true, true, true, true, true, false, true, false, true, false, false, false, false, true, false, false] rfl rfl (any_of HT_.out (by kernel_rfl)) (fun _ _ _ h => h) (Or.inl ⟨by rfl, ?_⟩) ?_ ?_
                    rotate_left
                    · intro w'
                      go_simp
                      with_reducible rfl
                    rotate_left
                    · simp only [Act.put, List.setIfInBounds_toArray, List.set_cons_zero, List.set_cons_succ, i64_w, i32_w]
                      rfl
                    refine take_ (i := 8) (N := some 42) (v := ?_) (a' := ?_) #[true, true, true, true, true, true, true, true, true, true, false, true, false, false, false, false, true, false, false] rfl rfl (take_ofW HT_.out HW_.out (by kernel_rfl)) (fun _ _ _ h => h) (Or.inl ⟨by rfl, ?_⟩) hHeld ?_ ?_
                    rotate_left
                    · rintro w' ⟨s0, s1, s2, s3, s4, s5, s6, s7, s8, s9, s10, s11, s12, s13, s14, s15, s16, s17, s18, s19, s20, s21, s22, s23⟩
                      go_simp
                      with_reducible rfl
                    rotate_left
                    · simp only [Act.put, List.setIfInBounds_toArray, List.set_cons_zero, List.set_cons_succ, i64_w, i32_w]
                      rfl
                    refine take_ (i := 10) (N := some 44) (v := ?_) (a' := ?_) #[true, true, true, true, true, true, true, true, true, true, true, true, false, false, false, false, true, false, false] rfl rfl (take_ofW HT_.out HW_.out (by kernel_rfl)) (fun _ _ _ h => h) (Or.inl ⟨by rfl, ?_⟩) hHeld ?_ ?_
                    rotate_left
                    · rintro w' ⟨s0, s1, s2, s3, s4, s5, s6, s7, s8, s9, s10, s11, s12, s13, s14, s15, s16, s17, s18, s19, s20, s21, s22, s23⟩
                      go_simp
                      with_reducible rfl
                    rotate_left
                    · simp only [Act.put, List.setIfInBounds_toArray, List.set_cons_zero, List.set_cons_succ, i64_w, i32_w]
                      rfl
                    refine pure_ (i := 12) (N := some 46) (v := ?_) (a' := ?_) #[true, true, true, true, true, true, true, true, true, true, true, true, true, false, false, false, true, false, false] rfl rfl (any_of HT_.out (by kernel_rfl)) (fun _ _ _ h => h) (Or.inl ⟨by rfl, ?_⟩) ?_ ?_
                    rotate_left
                    · intro w'
                      go_simp
                      with_reducible rfl
                    rotate_left
                    · simp only [Act.put, List.setIfInBounds_toArray, List.set_cons_zero, List.set_cons_succ, i64_w, i32_w]
                      rfl
                    refine pure_ (i := 13) (N := some 47) (v := ?_) (a' := ?_) #[true, true, true, true, true, true, true, true, true, true, true, true, true, true, false, false, true, false, false] rfl rfl (any_of HT_.out (by kernel_rfl)) (fun _ _ _ h => h) (Or.inl ⟨by rfl, ?_⟩) ?_ ?_
                    rotate_left
                    · intro w'
                      go_simp
                      with_reducible rfl
                    rotate_left
                    · simp only [Act.put, List.setIfInBounds_toArray, List.set_cons_zero, List.set_cons_succ, i64_w, i32_w]
                      rfl
                    refine take_ (i := 14) (N := some 48) (v := ?_) (a' := ?_) #[true, true, true, true, true, true, true, true, true, true, true, true, true, true, true, false, true, false, false] rfl rfl (take_ofW HT_.out HW_.out (by kernel_rfl)) (fun _ _ _ h => h) (Or.inl ⟨by rfl, ?_⟩) hHeld ?_ ?_
                    rotate_left
                    · rintro w' ⟨s0, s1, s2, s3, s4, s5, s6, s7, s8, s9, s10, s11, s12, s13, s14, s15, s16, s17, s18, s19, s20, s21, s22, s23⟩
                      go_simp
                      with_reducible rfl
                    rotate_left
                    · simp only [Act.put, List.setIfInBounds_toArray, List.set_cons_zero, List.set_cons_succ, i64_w, i32_w]
                      rfl
                    refine one_ (i := 15) (N := some 49) #[true, true, true, true, true, true, true, true, true, true, true, true, true, true, true, true, true, false, false] rfl rfl (one_of HT_.out (by kernel_rfl)) (by decide) (fun K hK => ?_)
                    refine goes_ Try.func83 (by kernel_rfl) rfl #[.agg #[.slice (some ad249) l0_0.length c0_0, .int .i64 a0_1], .int .i64 ((rd_T29 l0_0 x3_2).f2)] (by rfl) rfl rfl (by (try simp only [List.map_toArray, List.map_cons, List.map_nil]); first | done | rfl | (simp only [List.length_drop, List.length_take]; rfl)) ?_
                    with_reducible refine (weftlineref14_find.calls k2 _ _ l0_0 a0_1 ((rd_T29 l0_0 x3_2).f2) t252 _ ?side1 ?side2 A16.out).mono ?_
                    (case side1 => repeat (first | exact (Kd.C_below HR0_0.out HB.out) | (with_reducible refine Kd.C_alloc ?_ _) | (with_reducible refine Kd.C_drewN ?_ _) | (with_reducible refine Kd.C_drew ?_)))
                    (case side2 => exact HC0_0.out)
                    rintro e w21 ⟨rfl, hb⟩
                    refine ⟨_, rfl, ?_⟩
                    have n0_ := Aside0.mk (blk_below (g := gb248) (o := .cells #[.slice (some ad249) l0_0.length c0_0, .int .i64 a0_1] 66 (0, 0)) (by (with_reducible repeat (first | refine blk_drewN ?_ _ | refine blk_drew ?_ | refine blk_alloc ?_ _)); exact BK248.out) hb)
                    have n1_ := Aside0.mk (below_step (by repeat (first | (with_reducible first | exact HB.out | apply below_alloc | apply pw_below_drewN | apply below_drew1 | refine below_set ?_ GE248.out) | exact HB.out)) hb)
                    clear BK248
                    clear HB
                    have BK248 := n0_
                    have HB := n1_
                    clear n0_ n1_
                    (try clear hb)
                    (try clear hb2)
                    (try clear hk)
                    (try clear hi)
                    refine hK.out _ _ ⟨(blk_cell BK248.out 0).trans rfl, (blk_cell BK248.out 1).trans rfl, ((HB.out.cell (World.block_lt_of_cell? w _ hw249_0)).trans hw249_0), ((HB.out.cell (World.block_lt_of_cell? w _ hw249_1)).trans hw249_1), ((HB.out.cell (World.block_lt_of_cell? w _ hw249_2)).trans hw249_2), ((HB.out.cell (World.block_lt_of_cell? w _ hw249_3)).trans hw249_3), ((HB.out.cell (World.block_lt_of_cell? w _ hw249_4)).trans hw249_4), ((HB.out.cell (World.block_lt_of_cell? w _ hw249_5)).trans hw249_5), ((HB.out.cell (World.block_lt_of_cell? w _ hw249_6)).trans hw249_6), ((HB.out.cell (World.block_lt_of_cell? w _ hw249_7)).trans hw249_7), ((HB.out.cell (World.block_lt_of_cell? w _ hw249_8)).trans hw249_8), ((HB.out.cell (World.block_lt_of_cell? w _ hw249_9)).trans hw249_9), ((HB.out.cell (World.block_lt_of_cell? w _ hw249_10)).trans hw249_10), ((HB.out.cell (World.block_lt_of_cell? w _ hw251_0)).trans hw251_0), ((HB.out.cell (World.block_lt_of_cell? w _ hw251_1)).trans hw251_1), ((HB.out.cell (World.block_lt_of_cell? w _ hw251_2)).trans hw251_2), ((HB.out.cell (World.block_lt_of_cell? w _ hw251_3)).trans hw251_3), ((HB.out.cell (World.block_lt_of_cell? w _ hw251_4)).trans hw251_4), ((HB.out.cell (World.block_lt_of_cell? w _ hw251_5)).trans hw251_5), ((HB.out.cell (World.block_lt_of_cell? w _ hw251_6)).trans hw251_6), ((HB.out.cell (World.block_lt_of_cell? w _ hw251_7)).trans hw251_7), ((HB.out.cell (World.block_lt_of_cell? w _ hw251_8)).trans hw251_8), ((HB.out.cell (World.block_lt_of_cell? w _ hw251_9)).trans hw251_9), ((HB.out.cell (World.block_lt_of_cell? w _ hw251_10)).trans hw251_10)⟩ (fun hHeld => ?_)
                    clear hK K
                    refine norm_ (a' := ?_) ?_ ?_
                    rotate_left
                    · show Act.put _ (some 49) _ = _
                      simp only [Act.put, List.setIfInBounds_toArray, List.set_cons_zero, List.set_cons_succ, i64_w, i32_w]
                      rfl
                    refine pure_ (i := 17) (N := some 51) (v := ?_) (a' := ?_) #[true, true, true, true, true, true, true, true, true, true, true, true, true, true, true, true, true, true, false] rfl rfl (any_of HT_.out (by kernel_rfl)) (fun _ _ _ h => h) (Or.inl ⟨by rfl, ?_⟩) ?_ ?_
                    rotate_left
                    · intro w'
                      go_simp
                      with_reducible rfl
                    rotate_left
                    · simp only [Act.put, List.setIfInBounds_toArray, List.set_cons_zero, List.set_cons_succ, i64_w, i32_w]
                      rfl
                    refine pure_ (i := 18) (N := some 52) (v := ?_) (a' := ?_) #[true, true, true, true, true, true, true, true, true, true, true, true, true, true, true, true, true, true, true] rfl rfl (any_of HT_.out (by kernel_rfl)) (fun _ _ _ h => h) (Or.inl ⟨by rfl, ?_⟩) ?_ ?_
                    rotate_left
                    · intro w'
                      go_simp
                      with_reducible rfl
                    rotate_left
                    · simp only [Act.put, List.setIfInBounds_toArray, List.set_cons_zero, List.set_cons_succ, i64_w, i32_w]
                      rfl
                    refine done_ (done_of HT_.out (by kernel_rfl)) ?_
                    try go_wp2
                    go_ret
                    exact ⟨by first | rfl | (simp [errW_none, errW_some] <;> rfl) | (simp [*, errW_none, errW_some] <;> rfl), by repeat (first | (with_reducible first | exact HB.out | apply below_alloc | apply pw_below_drewN | apply below_drew1 | refine below_set ?_ GE248.out) | exact HB.out)⟩
                  · rw [if_neg c17] at H
                    have c17b0 : decide (t252 < x3_2) = false := decide_eq_false c17
                    clear c17
                    have H' := Aside0.mk H
                    clear H
                    have hcz22_0 : wr.cell? ⟨gb248, 0, none⟩ = some (.slice A0_0 l0_0.length c0_0) := (blk_cell BK248.out 0).trans rfl
                    have hcz22_1 : wr.cell? ⟨gb248, 1, none⟩ = some (.int .i64 a0_1) := (blk_cell BK248.out 1).trans rfl
                    have hfz22_0 := blk_frozen BK248.out 0
                    have hfz22_1 := blk_frozen BK248.out 1
                    try go_wp2
                    have n0_ := Aside0.mk (blk_drew BK248.out)
                    have n1_ := Aside0.mk (below_drew1 HB.out)
                    clear BK248
                    clear HB
                    have BK248 := n0_
                    have HB := n1_
                    clear n0_ n1_
                    have p249 : 0 ≤ (x3_2 : Int) := of_decide_eq_true (by first | (with_reducible assumption) | assumption)
                    have q249 : x3_2 < (l0_0.length : Int) := of_decide_eq_true (by first | (with_reducible assumption) | assumption)
                    obtain ⟨ad249, e249, hx249_0, hx249_1, hx249_2, hx249_3, hx249_4, hx249_5, hx249_6, hx249_7, hx249_8, hx249_9, hx249_10⟩ := at_T29 HR0_0.out x3_2 p249 q249
                    have hw249_10 := hx249_10
                    have hw249_9 := hx249_9
                    have hw249_8 := hx249_8
                    have hw249_7 := hx249_7
                    have hw249_6 := hx249_6
                    have hw249_5 := hx249_5
                    have hw249_4 := hx249_4
                    have hw249_3 := hx249_3
                    have hw249_2 := hx249_2
                    have hw249_1 := hx249_1
                    have hw249_0 := hx249_0
                    cases e249
                    replace hx249_0 := (HB.out.cell (World.block_lt_of_cell? w _ hx249_0)).trans hx249_0
                    replace hx249_1 := (HB.out.cell (World.block_lt_of_cell? w _ hx249_1)).trans hx249_1
                    replace hx249_2 := (HB.out.cell (World.block_lt_of_cell? w _ hx249_2)).trans hx249_2
                    replace hx249_3 := (HB.out.cell (World.block_lt_of_cell? w _ hx249_3)).trans hx249_3
                    replace hx249_4 := (HB.out.cell (World.block_lt_of_cell? w _ hx249_4)).trans hx249_4
                    replace hx249_5 := (HB.out.cell (World.block_lt_of_cell? w _ hx249_5)).trans hx249_5
                    replace hx249_6 := (HB.out.cell (World.block_lt_of_cell? w _ hx249_6)).trans hx249_6
                    replace hx249_7 := (HB.out.cell (World.block_lt_of_cell? w _ hx249_7)).trans hx249_7
                    replace hx249_8 := (HB.out.cell (World.block_lt_of_cell? w _ hx249_8)).trans hx249_8
                    replace hx249_9 := (HB.out.cell (World.block_lt_of_cell? w _ hx249_9)).trans hx249_9
                    replace hx249_10 := (HB.out.cell (World.block_lt_of_cell? w _ hx249_10)).trans hx249_10
                    replace p249 := eq_true p249
                    replace q249 := eq_true q249
                    have p251 : 0 ≤ (x3_2 : Int) := of_decide_eq_true (by first | (with_reducible assumption) | assumption)
                    have q251 : x3_2 < (l0_0.length : Int) := of_decide_eq_true (by first | (with_reducible assumption) | assumption)
                    obtain ⟨ad251, e251, hx251_0, hx251_1, hx251_2, hx251_3, hx251_4, hx251_5, hx251_6, hx251_7, hx251_8, hx251_9, hx251_10⟩ := at_T29 HR0_0.out x3_2 p251 q251
                    have hw251_10 := hx251_10
                    have hw251_9 := hx251_9
                    have hw251_8 := hx251_8
                    have hw251_7 := hx251_7
                    have hw251_6 := hx251_6
                    have hw251_5 := hx251_5
                    have hw251_4 := hx251_4
                    have hw251_3 := hx251_3
                    have hw251_2 := hx251_2
                    have hw251_1 := hx251_1
                    have hw251_0 := hx251_0
                    obtain rfl : ad249 = ad251 := (by injection e251)
                    replace hx251_0 := (HB.out.cell (World.block_lt_of_cell? w _ hx251_0)).trans hx251_0
                    replace hx251_1 := (HB.out.cell (World.block_lt_of_cell? w _ hx251_1)).trans hx251_1
                    replace hx251_2 := (HB.out.cell (World.block_lt_of_cell? w _ hx251_2)).trans hx251_2
                    replace hx251_3 := (HB.out.cell (World.block_lt_of_cell? w _ hx251_3)).trans hx251_3
                    replace hx251_4 := (HB.out.cell (World.block_lt_of_cell? w _ hx251_4)).trans hx251_4
                    replace hx251_5 := (HB.out.cell (World.block_lt_of_cell? w _ hx251_5)).trans hx251_5
                    replace hx251_6 := (HB.out.cell (World.block_lt_of_cell? w _ hx251_6)).trans hx251_6
                    replace hx251_7 := (HB.out.cell (World.block_lt_of_cell? w _ hx251_7)).trans hx251_7
                    replace hx251_8 := (HB.out.cell (World.block_lt_of_cell? w _ hx251_8)).trans hx251_8
                    replace hx251_9 := (HB.out.cell (World.block_lt_of_cell? w _ hx251_9)).trans hx251_9
                    replace hx251_10 := (HB.out.cell (World.block_lt_of_cell? w _ hx251_10)).trans hx251_10
                    replace p251 := eq_true p251
                    replace q251 := eq_true q251
                    refine start_ (n := 19) (S := fun w' => w'.cell? ⟨gb248, 0, none⟩ = some (.slice (some ad249) l0_0.length c0_0) ∧ w'.cell? ⟨gb248, 1, none⟩ = some (.int .i64 a0_1) ∧ w'.cell? (ad249.add ((x3_2).toNat * 11)) = some (.int .i64 ((rd_T29 l0_0 x3_2).f0.f0)) ∧ w'.cell? ⟨(ad249.add ((x3_2).toNat * 11)).block, (ad249.add ((x3_2).toNat * 11)).off + 1, none⟩ = some (.int .i64 ((rd_T29 l0_0 x3_2).f0.f1)) ∧ w'.cell? ⟨(ad249.add ((x3_2).toNat * 11)).block, (ad249.add ((x3_2).toNat * 11)).off + 2, none⟩ = some (.int .i64 ((rd_T29 l0_0 x3_2).f0.f2)) ∧ w'.cell? ⟨(ad249.add ((x3_2).toNat * 11)).block, (ad249.add ((x3_2).toNat * 11)).off + 3, none⟩ = some (.bool ((rd_T29 l0_0 x3_2).f0.f3)) ∧ w'.cell? ⟨(ad249.add ((x3_2).toNat * 11)).block, (ad249.add ((x3_2).toNat * 11)).off + 4, none⟩ = some (.int .i64 ((rd_T29 l0_0 x3_2).f1.f0)) ∧ w'.cell? ⟨(ad249.add ((x3_2).toNat * 11)).block, (ad249.add ((x3_2).toNat * 11)).off + 5, none⟩ = some (.int .i64 ((rd_T29 l0_0 x3_2).f1.f1)) ∧ w'.cell? ⟨(ad249.add ((x3_2).toNat * 11)).block, (ad249.add ((x3_2).toNat * 11)).off + 6, none⟩ = some (.int .i64 ((rd_T29 l0_0 x3_2).f1.f2)) ∧ w'.cell? ⟨(ad249.add ((x3_2).toNat * 11)).block, (ad249.add ((x3_2).toNat * 11)).off + 7, none⟩ = some (.int .i64 ((rd_T29 l0_0 x3_2).f2)) ∧ w'.cell? ⟨(ad249.add ((x3_2).toNat * 11)).block, (ad249.add ((x3_2).toNat * 11)).off + 8, none⟩ = some (.int .i64 ((rd_T29 l0_0 x3_2).f3)) ∧ w'.cell? ⟨(ad249.add ((x3_2).toNat * 11)).block, (ad249.add ((x3_2).toNat * 11)).off + 9, none⟩ = some (.int .u32 ((rd_T29 l0_0 x3_2).f4)) ∧ w'.cell? ⟨(ad249.add ((x3_2).toNat * 11)).block, (ad249.add ((x3_2).toNat * 11)).off + 10, none⟩ = some (.int .i64 ((rd_T29 l0_0 x3_2).f5)) ∧ w'.cell? (ad249.add ((x3_2).toNat * 11)) = some (.int .i64 ((rd_T29 l0_0 x3_2).f0.f0)) ∧ w'.cell? ⟨(ad249.add ((x3_2).toNat * 11)).block, (ad249.add ((x3_2).toNat * 11)).off + 1, none⟩ = some (.int .i64 ((rd_T29 l0_0 x3_2).f0.f1)) ∧ w'.cell? ⟨(ad249.add ((x3_2).toNat * 11)).block, (ad249.add ((x3_2).toNat * 11)).off + 2, none⟩ = some (.int .i64 ((rd_T29 l0_0 x3_2).f0.f2)) ∧ w'.cell? ⟨(ad249.add ((x3_2).toNat * 11)).block, (ad249.add ((x3_2).toNat * 11)).off + 3, none⟩ = some (.bool ((rd_T29 l0_0 x3_2).f0.f3)) ∧ w'.cell? ⟨(ad249.add ((x3_2).toNat * 11)).block, (ad249.add ((x3_2).toNat * 11)).off + 4, none⟩ = some (.int .i64 ((rd_T29 l0_0 x3_2).f1.f0)) ∧ w'.cell? ⟨(ad249.add ((x3_2).toNat * 11)).block, (ad249.add ((x3_2).toNat * 11)).off + 5, none⟩ = some (.int .i64 ((rd_T29 l0_0 x3_2).f1.f1)) ∧ w'.cell? ⟨(ad249.add ((x3_2).toNat * 11)).block, (ad249.add ((x3_2).toNat * 11)).off + 6, none⟩ = some (.int .i64 ((rd_T29 l0_0 x3_2).f1.f2)) ∧ w'.cell? ⟨(ad249.add ((x3_2).toNat * 11)).block, (ad249.add ((x3_2).toNat * 11)).off + 7, none⟩ = some (.int .i64 ((rd_T29 l0_0 x3_2).f2)) ∧ w'.cell? ⟨(ad249.add ((x3_2).toNat * 11)).block, (ad249.add ((x3_2).toNat * 11)).off + 8, none⟩ = some (.int .i64 ((rd_T29 l0_0 x3_2).f3)) ∧ w'.cell? ⟨(ad249.add ((x3_2).toNat * 11)).block, (ad249.add ((x3_2).toNat * 11)).off + 9, none⟩ = some (.int .u32 ((rd_T29 l0_0 x3_2).f4)) ∧ w'.cell? ⟨(ad249.add ((x3_2).toNat * 11)).block, (ad249.add ((x3_2).toNat * 11)).off + 10, none⟩ = some (.int .i64 ((rd_T29 l0_0 x3_2).f5))) (ds := []) #[false, false, false, false, false, false, false, false, false, false, false, false, false, false, false, false, false, false, false] (by kernel_rfl) rfl rfl ⟨(blk_cell BK248.out 0).trans rfl, (blk_cell BK248.out 1).trans rfl, ((HB.out.cell (World.block_lt_of_cell? w _ hw249_0)).trans hw249_0), ((HB.out.cell (World.block_lt_of_cell? w _ hw249_1)).trans hw249_1), ((HB.out.cell (World.block_lt_of_cell? w _ hw249_2)).trans hw249_2), ((HB.out.cell (World.block_lt_of_cell? w _ hw249_3)).trans hw249_3), ((HB.out.cell (World.block_lt_of_cell? w _ hw249_4)).trans hw249_4), ((HB.out.cell (World.block_lt_of_cell? w _ hw249_5)).trans hw249_5), ((HB.out.cell (World.block_lt_of_cell? w _ hw249_6)).trans hw249_6), ((HB.out.cell (World.block_lt_of_cell? w _ hw249_7)).trans hw249_7), ((HB.out.cell (World.block_lt_of_cell? w _ hw249_8)).trans hw249_8), ((HB.out.cell (World.block_lt_of_cell? w _ hw249_9)).trans hw249_9), ((HB.out.cell (World.block_lt_of_cell? w _ hw249_10)).trans hw249_10), ((HB.out.cell (World.block_lt_of_cell? w _ hw251_0)).trans hw251_0), ((HB.out.cell (World.block_lt_of_cell? w _ hw251_1)).trans hw251_1), ((HB.out.cell (World.block_lt_of_cell? w _ hw251_2)).trans hw251_2), ((HB.out.cell (World.block_lt_of_cell? w _ hw251_3)).trans hw251_3), ((HB.out.cell (World.block_lt_of_cell? w _ hw251_4)).trans hw251_4), ((HB.out.cell (World.block_lt_of_cell? w _ hw251_5)).trans hw251_5), ((HB.out.cell (World.block_lt_of_cell? w _ hw251_6)).trans hw251_6), ((HB.out.cell (World.block_lt_of_cell? w _ hw251_7)).trans hw251_7), ((HB.out.cell (World.block_lt_of_cell? w _ hw251_8)).trans hw251_8), ((HB.out.cell (World.block_lt_of_cell? w _ hw251_9)).trans hw251_9), ((HB.out.cell (World.block_lt_of_cell? w _ hw251_10)).trans hw251_10)⟩ (fun hHeld => ?_); refine with_tabW weftlineref14_Good.tab6 weftlineref14_Good.bits6 (fun HT_ HW_ => ?_)
                    generalize wr.drew = w23 at BK248 HB hx249_0 hx249_1 hx249_10 hx249_2 hx249_3 hx249_4 hx249_5 hx249_6 hx249_7 hx249_8 hx249_9 hx251_0 hx251_1 hx251_10 hx251_2 hx251_3 hx251_4 hx251_5 hx251_6 hx251_7 hx251_8 hx251_9 hHeld ⊢
                    refine pure_ (i := 0) (N := some 34) (v := ?_) (a' := ?_) #[true, false, false, false, false, false, false, false, false, false, false, false, false, false, false, false, false, false, false] rfl rfl (any_of HT_.out (by kernel_rfl)) (fun _ _ _ h => h) (Or.inl ⟨by rfl, ?_⟩) ?_ ?_
                    rotate_left
                    · intro w'
                      go_simp
                      with_reducible rfl
                    rotate_left
                    · simp only [Act.put, List.setIfInBounds_toArray, List.set_cons_zero, List.set_cons_succ, i64_w, i32_w]
                      rfl
                    refine pure_ (i := 2) (N := some 36) (v := ?_) (a' := ?_) #[true, false, true, false, false, false, false, false, false, false, false, false, false, false, false, false, false, false, false] rfl rfl (any_of HT_.out (by kernel_rfl)) (fun _ _ _ h => h) (Or.inl ⟨by rfl, ?_⟩) ?_ ?_
                    rotate_left
                    · intro w'
                      go_simp
                      with_reducible rfl
                    rotate_left
                    · simp only [Act.put, List.setIfInBounds_toArray, List.set_cons_zero, List.set_cons_succ, i64_w, i32_w]
                      rfl
                    refine take_ (i := 1) (N := some 35) (v := ?_) (a' := ?_) #[true, true, true, false, false, false, false, false, false, false, false, false, false, false, false, false, false, false, false] rfl rfl (take_ofW HT_.out HW_.out (by kernel_rfl)) (fun _ _ _ h => h) (Or.inl ⟨by rfl, ?_⟩) hHeld ?_ ?_
                    rotate_left
                    · rintro w' ⟨s0, s1, s2, s3, s4, s5, s6, s7, s8, s9, s10, s11, s12, s13, s14, s15, s16, s17, s18, s19, s20, s21, s22, s23⟩
                      go_simp
                      with_reducible rfl
                    rotate_left
                    · simp only [Act.put, List.setIfInBounds_toArray, List.set_cons_zero, List.set_cons_succ, i64_w, i32_w]
                      rfl
                    refine pure_ (i := 3) (N := some 37) (v := ?_) (a' := ?_) #[true, true, true, true, false, false, false, false, false, false, false, false, false, false, false, false, false, false, false] rfl rfl (any_of HT_.out (by kernel_rfl)) (fun _ _ _ h => h) (Or.inl ⟨by rfl, ?_⟩) ?_ ?_
                    rotate_left
                    · intro w'
                      go_simp
                      with_reducible rfl
                    rotate_left
                    · simp only [Act.put, List.setIfInBounds_toArray, List.set_cons_zero, List.set_cons_succ, i64_w, i32_w]
                      rfl
                    refine take_ (i := 4) (N := some 38) (v := ?_) (a' := ?_) #[true, true, true, true, true, false, false, false, false, false, false, false, false, false, false, false, false, false, false] rfl rfl (take_ofW HT_.out HW_.out (by kernel_rfl)) (fun _ _ _ h => h) (Or.inl ⟨by rfl, ?_⟩) hHeld ?_ ?_
                    rotate_left
                    · rintro w' ⟨s0, s1, s2, s3, s4, s5, s6, s7, s8, s9, s10, s11, s12, s13, s14, s15, s16, s17, s18, s19, s20, s21, s22, s23⟩
                      go_simp
                      with_reducible rfl
                    rotate_left
                    · simp only [Act.put, List.setIfInBounds_toArray, List.set_cons_zero, List.set_cons_succ, i64_w, i32_w]
                      rfl
                    refine one_ (i := 5) (N := some 39) #[true, true, true, true, true, true, false, false, false, false, false, false, false, false, false, false, false, false, false] rfl rfl (one_of HT_.out (by kernel_rfl)) (by decide) (fun K hK => ?_)
                    refine goes_ Try.func19 (by kernel_rfl) rfl #[.agg #[.int .i64 ((rd_T29 l0_0 x3_2).f0.f0), .int .i64 ((rd_T29 l0_0 x3_2).f0.f1), .int .i64 ((rd_T29 l0_0 x3_2).f0.f2), .bool ((rd_T29 l0_0 x3_2).f0.f3), .int .i64 ((rd_T29 l0_0 x3_2).f1.f0), .int .i64 ((rd_T29 l0_0 x3_2).f1.f1), .int .i64 ((rd_T29 l0_0 x3_2).f1.f2), .int .i64 ((rd_T29 l0_0 x3_2).f2), .int .i64 ((rd_T29 l0_0 x3_2).f3), .int .u32 ((rd_T29 l0_0 x3_2).f4), .int .i64 ((rd_T29 l0_0 x3_2).f5)]] (by rfl) rfl rfl (by (try simp only [List.map_toArray, List.map_cons, List.map_nil]); first | done | rfl | (simp only [List.length_drop, List.length_take]; rfl)) ?_
                    with_reducible refine (weftlineref13_Good.calls k2 ((rd_T29 l0_0 x3_2).f0.f0) ((rd_T29 l0_0 x3_2).f0.f1) ((rd_T29 l0_0 x3_2).f0.f2) ((rd_T29 l0_0 x3_2).f0.f3) ((rd_T29 l0_0 x3_2).f1.f0) ((rd_T29 l0_0 x3_2).f1.f1) ((rd_T29 l0_0 x3_2).f1.f2) ((rd_T29 l0_0 x3_2).f2) ((rd_T29 l0_0 x3_2).f3) ((rd_T29 l0_0 x3_2).f4) ((rd_T29 l0_0 x3_2).f5) true _ A14.out).mono ?_
                    rintro e w24 ⟨rfl, hb⟩
                    refine ⟨_, rfl, ?_⟩
                    have n0_ := Aside0.mk (blk_below (g := gb248) (o := .cells #[.slice (some ad249) l0_0.length c0_0, .int .i64 a0_1] 66 (0, 0)) (by (with_reducible repeat (first | refine blk_drewN ?_ _ | refine blk_drew ?_ | refine blk_alloc ?_ _)); exact BK248.out) hb)
                    have n1_ := Aside0.mk (below_step (by repeat (first | (with_reducible first | exact HB.out | apply below_alloc | apply pw_below_drewN | apply below_drew1 | refine below_set ?_ GE248.out) | exact HB.out)) hb)
                    clear BK248
                    clear HB
                    have BK248 := n0_
                    have HB := n1_
                    clear n0_ n1_
                    (try clear hb)
                    (try clear hb2)
                    (try clear hk)
                    (try clear hi)
                    refine hK.out _ _ ⟨(blk_cell BK248.out 0).trans rfl, (blk_cell BK248.out 1).trans rfl, ((HB.out.cell (World.block_lt_of_cell? w _ hw249_0)).trans hw249_0), ((HB.out.cell (World.block_lt_of_cell? w _ hw249_1)).trans hw249_1), ((HB.out.cell (World.block_lt_of_cell? w _ hw249_2)).trans hw249_2), ((HB.out.cell (World.block_lt_of_cell? w _ hw249_3)).trans hw249_3), ((HB.out.cell (World.block_lt_of_cell? w _ hw249_4)).trans hw249_4), ((HB.out.cell (World.block_lt_of_cell? w _ hw249_5)).trans hw249_5), ((HB.out.cell (World.block_lt_of_cell? w _ hw249_6)).trans hw249_6), ((HB.out.cell (World.block_lt_of_cell? w _ hw249_7)).trans hw249_7), ((HB.out.cell (World.block_lt_of_cell? w _ hw249_8)).trans hw249_8), ((HB.out.cell (World.block_lt_of_cell? w _ hw249_9)).trans hw249_9), ((HB.out.cell (World.block_lt_of_cell? w _ hw249_10)).trans hw249_10), ((HB.out.cell (World.block_lt_of_cell? w _ hw251_0)).trans hw251_0), ((HB.out.cell (World.block_lt_of_cell? w _ hw251_1)).trans hw251_1), ((HB.out.cell (World.block_lt_of_cell? w _ hw251_2)).trans hw251_2), ((HB.out.cell (World.block_lt_of_cell? w _ hw251_3)).trans hw251_3), ((HB.out.cell (World.block_lt_of_cell? w _ hw251_4)).trans hw251_4), ((HB.out.cell (World.block_lt_of_cell? w _ hw251_5)).trans hw251_5), ((HB.out.cell (World.block_lt_of_cell? w _ hw251_6)).trans hw251_6), ((HB.out.cell (World.block_lt_of_cell? w _ hw251_7)).trans hw251_7), ((HB.out.cell (World.block_lt_of_cell? w _ hw251_8)).trans hw251_8), ((HB.out.cell (World.block_lt_of_cell? w _ hw251_9)).trans hw251_9), ((HB.out.cell (World.block_lt_of_cell? w _ hw251_10)).trans hw251_10)⟩ (fun hHeld => ?_)
                    clear hK K
                    refine norm_ (a' := ?_) ?_ ?_
                    rotate_left
                    · show Act.put _ (some 39) _ = _
                      simp only [Act.put, List.setIfInBounds_toArray, List.set_cons_zero, List.set_cons_succ, i64_w, i32_w]
                      rfl
                    refine pure_ (i := 6) (N := some 40) (v := ?_) (a' := ?_) #[true, true, true, true, true, true, true, false, false, false, false, false, false, false, false, false, false, false, false] rfl rfl (any_of HT_.out (by kernel_rfl)) (fun _ _ _ h => h) (Or.inl ⟨by rfl, ?_⟩) ?_ ?_
                    rotate_left
                    · intro w'
                      go_simp
                      with_reducible rfl
                    rotate_left
                    · simp only [Act.put, List.setIfInBounds_toArray, List.set_cons_zero, List.set_cons_succ, i64_w, i32_w]
                      rfl
                    refine pure_ (i := 7) (N := some 41) (v := ?_) (a' := ?_) #[true, true, true, true, true, true, true, true, false, false, false, false, false, false, false, false, false, false, false] rfl rfl (any_of HT_.out (by kernel_rfl)) (fun _ _ _ h => h) (Or.inl ⟨by rfl, ?_⟩) ?_ ?_
                    rotate_left
                    · intro w'
                      go_simp
                      with_reducible rfl
                    rotate_left
                    · simp only [Act.put, List.setIfInBounds_toArray, List.set_cons_zero, List.set_cons_succ, i64_w, i32_w]
                      rfl
                    refine pure_ (i := 9) (N := some 43) (v := ?_) (a' := ?_) #[true, true, true, true, true, true, true, true, false, true, false, false, false, false, false, false, false, false, false] rfl rfl (any_of HT_.out (by kernel_rfl)) (fun _ _ _ h => h) (Or.inl ⟨by rfl, ?_⟩) ?_ ?_
                    rotate_left
                    · intro w'
                      go_simp
                      with_reducible rfl
                    rotate_left
                    · simp only [Act.put, List.setIfInBounds_toArray, List.set_cons_zero, List.set_cons_succ, i64_w, i32_w]
                      rfl
                    refine pure_ (i := 11) (N := some 45) (v := ?_) (a' := ?_) #[true, true, true, true, true, true, true, true, false, true, false, true, false, false, false, false, false, false, false] rfl rfl (any_of HT_.out (by kernel_rfl)) (fun _ _ _ h => h) (Or.inl ⟨by rfl, ?_⟩) ?_ ?_
                    rotate_left
                    · intro w'
                      go_simp
                      with_reducible rfl
                    rotate_left
                    · simp only [Act.put, List.setIfInBounds_toArray, List.set_cons_zero, List.set_cons_succ, i64_w, i32_w]
                      rfl
                    refine pure_ (i := 16) (N := some 50) (v := ?_) (a' := ?_) #[true, true, true, true, true, true, true, true, false, true, false, true, false, false, false, false, true, false, false] rfl rfl (any_of HT_.out (by kernel_rfl)) (fun _ _ _ h => h) (Or.inl ⟨by rfl, ?_⟩) ?_ ?_
                    rotate_left
                    · intro w'
                      go_simp
                      with_reducible rfl
                    rotate_left
                    · simp only [Act.put, List.setIfInBounds_toArray, List.set_cons_zero, List.set_cons_succ, i64_w, i32_w]
                      rfl
                    refine take_ (i := 8) (N := some 42) (v := ?_) (a' := ?_) #[true, true, true, true, true, true, true, true, true, true, false, true, false, false, false, false, true, false, false] rfl rfl (take_ofW HT_.out HW_.out (by kernel_rfl)) (fun _ _ _ h => h) (Or.inl ⟨by rfl, ?_⟩) hHeld ?_ ?_
                    rotate_left
                    · rintro w' ⟨s0, s1, s2, s3, s4, s5, s6, s7, s8, s9, s10, s11, s12, s13, s14, s15, s16, s17, s18, s19, s20, s21, s22, s23⟩
                      go_simp
                      with_reducible rfl
                    rotate_left
                    · simp only [Act.put, List.setIfInBounds_toArray, List.set_cons_zero, List.set_cons_succ, i64_w, i32_w]
                      rfl
                    refine take_ (i := 10) (N := some 44) (v := ?_) (a' := ?_) #[true, true, true, true, true, true, true, true, true, true, true, true, false, false, false, false, true, false, false] rfl rfl (take_ofW HT_.out HW_.out (by kernel_rfl)) (fun _ _ _ h => h) (Or.inl ⟨by rfl, ?_⟩) hHeld ?_ ?_
                    rotate_left
                    · rintro w' ⟨s0, s1, s2, s3, s4, s5, s6, s7, s8, s9, s10, s11, s12, s13, s14, s15, s16, s17, s18, s19, s20, s21, s22, s23⟩
                      go_simp
                      with_reducible rfl
                    rotate_left
                    · simp only [Act.put, List.setIfInBounds_toArray, List.set_cons_zero, List.set_cons_succ, i64_w, i32_w]
                      rfl
                    refine pure_ (i := 12) (N := some 46) (v := ?_) (a' := ?_) #[true, true, true, true, true, true, true, true, true, true, true, true, true, false, false, false, true, false, false] rfl rfl (any_of HT_.out (by kernel_rfl)) (fun _ _ _ h => h) (Or.inl ⟨by rfl, ?_⟩) ?_ ?_
                    rotate_left
                    · intro w'
                      go_simp
                      with_reducible rfl
                    rotate_left
                    · simp only [Act.put, List.setIfInBounds_toArray, List.set_cons_zero, List.set_cons_succ, i64_w, i32_w]
                      rfl
                    refine pure_ (i := 13) (N := some 47) (v := ?_) (a' := ?_) #[true, true, true, true, true, true, true, true, true, true, true, true, true, true, false, false, true, false, false] rfl rfl (any_of HT_.out (by kernel_rfl)) (fun _ _ _ h => h) (Or.inl ⟨by rfl, ?_⟩) ?_ ?_
                    rotate_left
                    · intro w'
                      go_simp
                      with_reducible rfl
                    rotate_left
                    · simp only [Act.put, List.setIfInBounds_toArray, List.set_cons_zero, List.set_cons_succ, i64_w, i32_w]
                      rfl
                    refine take_ (i := 14) (N := some 48) (v := ?_) (a' := ?_) #[true, true, true, true, true, true, true, true, true, true, true, true, true, true, true, false, true, false, false] rfl rfl (take_ofW HT_.out HW_.out (by kernel_rfl)) (fun _ _ _ h => h) (Or.inl ⟨by rfl, ?_⟩) hHeld ?_ ?_
                    rotate_left
                    · rintro w' ⟨s0, s1, s2, s3, s4, s5, s6, s7, s8, s9, s10, s11, s12, s13, s14, s15, s16, s17, s18, s19, s20, s21, s22, s23⟩
                      go_simp
                      with_reducible rfl
                    rotate_left
                    · simp only [Act.put, List.setIfInBounds_toArray, List.set_cons_zero, List.set_cons_succ, i64_w, i32_w]
                      rfl
                    refine one_ (i := 15) (N := some 49) #[true, true, true, true, true, true, true, true, true, true, true, true, true, true, true, true, true, false, false] rfl rfl (one_of HT_.out (by kernel_rfl)) (by decide) (fun K hK => ?_)
                    refine goes_ Try.func83 (by kernel_rfl) rfl #[.agg #[.slice (some ad249) l0_0.length c0_0, .int .i64 a0_1], .int .i64 ((rd_T29 l0_0 x3_2).f2)] (by rfl) rfl rfl (by (try simp only [List.map_toArray, List.map_cons, List.map_nil]); first | done | rfl | (simp only [List.length_drop, List.length_take]; rfl)) ?_
                    with_reducible refine (weftlineref14_find.calls k2 _ _ l0_0 a0_1 ((rd_T29 l0_0 x3_2).f2) t252 _ ?side1 ?side2 A16.out).mono ?_
                    (case side1 => repeat (first | exact (Kd.C_below HR0_0.out HB.out) | (with_reducible refine Kd.C_alloc ?_ _) | (with_reducible refine Kd.C_drewN ?_ _) | (with_reducible refine Kd.C_drew ?_)))
                    (case side2 => exact HC0_0.out)
                    rintro e w25 ⟨rfl, hb⟩
                    refine ⟨_, rfl, ?_⟩
                    have n0_ := Aside0.mk (blk_below (g := gb248) (o := .cells #[.slice (some ad249) l0_0.length c0_0, .int .i64 a0_1] 66 (0, 0)) (by (with_reducible repeat (first | refine blk_drewN ?_ _ | refine blk_drew ?_ | refine blk_alloc ?_ _)); exact BK248.out) hb)
                    have n1_ := Aside0.mk (below_step (by repeat (first | (with_reducible first | exact HB.out | apply below_alloc | apply pw_below_drewN | apply below_drew1 | refine below_set ?_ GE248.out) | exact HB.out)) hb)
                    clear BK248
                    clear HB
                    have BK248 := n0_
                    have HB := n1_
                    clear n0_ n1_
                    (try clear hb)
                    (try clear hb2)
                    (try clear hk)
                    (try clear hi)
                    refine hK.out _ _ ⟨(blk_cell BK248.out 0).trans rfl, (blk_cell BK248.out 1).trans rfl, ((HB.out.cell (World.block_lt_of_cell? w _ hw249_0)).trans hw249_0), ((HB.out.cell (World.block_lt_of_cell? w _ hw249_1)).trans hw249_1), ((HB.out.cell (World.block_lt_of_cell? w _ hw249_2)).trans hw249_2), ((HB.out.cell (World.block_lt_of_cell? w _ hw249_3)).trans hw249_3), ((HB.out.cell (World.block_lt_of_cell? w _ hw249_4)).trans hw249_4), ((HB.out.cell (World.block_lt_of_cell? w _ hw249_5)).trans hw249_5), ((HB.out.cell (World.block_lt_of_cell? w _ hw249_6)).trans hw249_6), ((HB.out.cell (World.block_lt_of_cell? w _ hw249_7)).trans hw249_7), ((HB.out.cell (World.block_lt_of_cell? w _ hw249_8)).trans hw249_8), ((HB.out.cell (World.block_lt_of_cell? w _ hw249_9)).trans hw249_9), ((HB.out.cell (World.block_lt_of_cell? w _ hw249_10)).trans hw249_10), ((HB.out.cell (World.block_lt_of_cell? w _ hw251_0)).trans hw251_0), ((HB.out.cell (World.block_lt_of_cell? w _ hw251_1)).trans hw251_1), ((HB.out.cell (World.block_lt_of_cell? w _ hw251_2)).trans hw251_2), ((HB.out.cell (World.block_lt_of_cell? w _ hw251_3)).trans hw251_3), ((HB.out.cell (World.block_lt_of_cell? w _ hw251_4)).trans hw251_4), ((HB.out.cell (World.block_lt_of_cell? w _ hw251_5)).trans hw251_5), ((HB.out.cell (World.block_lt_of_cell? w _ hw251_6)).trans hw251_6), ((HB.out.cell (World.block_lt_of_cell? w _ hw251_7)).trans hw251_7), ((HB.out.cell (World.block_lt_of_cell? w _ hw251_8)).trans hw251_8), ((HB.out.cell (World.block_lt_of_cell? w _ hw251_9)).trans hw251_9), ((HB.out.cell (World.block_lt_of_cell? w _ hw251_10)).trans hw251_10)⟩ (fun hHeld => ?_)
                    clear hK K
                    refine norm_ (a' := ?_) ?_ ?_
                    rotate_left
                    · show Act.put _ (some 49) _ = _
                      simp only [Act.put, List.setIfInBounds_toArray, List.set_cons_zero, List.set_cons_succ, i64_w, i32_w]
                      rfl
                    refine pure_ (i := 17) (N := some 51) (v := ?_) (a' := ?_) #[true, true, true, true, true, true, true, true, true, true, true, true, true, true, true, true, true, true, false] rfl rfl (any_of HT_.out (by kernel_rfl)) (fun _ _ _ h => h) (Or.inl ⟨by rfl, ?_⟩) ?_ ?_
                    rotate_left
                    · intro w'
                      go_simp
                      with_reducible rfl
                    rotate_left
                    · simp only [Act.put, List.setIfInBounds_toArray, List.set_cons_zero, List.set_cons_succ, i64_w, i32_w]
                      rfl
                    refine pure_ (i := 18) (N := some 52) (v := ?_) (a' := ?_) #[true, true, true, true, true, true, true, true, true, true, true, true, true, true, true, true, true, true, true] rfl rfl (any_of HT_.out (by kernel_rfl)) (fun _ _ _ h => h) (Or.inl ⟨by rfl, ?_⟩) ?_ ?_
                    rotate_left
                    · intro w'
                      go_simp
                      with_reducible rfl
                    rotate_left
                    · simp only [Act.put, List.setIfInBounds_toArray, List.set_cons_zero, List.set_cons_succ, i64_w, i32_w]
                      rfl
                    refine done_ (done_of HT_.out (by kernel_rfl)) ?_
                    try go_wp2
                    go_roundg k2
                    case measure => have := HJ1.out; have := HK2.out; omega
                    case rel => exact ⟨(wrap64 (x3_2 + 1)), (by first | rfl | (simp; done) | (simp [*]; done)), H', ⟨by have := HJ1.out; have := HK2.out; omega⟩, ⟨by (with_reducible repeat (first | refine blk_drewN ?_ _ | refine blk_drew ?_ | refine blk_alloc ?_ _)); exact BK248.out⟩, ⟨by repeat (first | (with_reducible first | exact HB.out | apply below_alloc | apply pw_below_drewN | apply below_drew1 | refine below_set ?_ GE248.out) | exact HB.out)⟩⟩
                · replace c15 := Bool.eq_false_iff.mpr c15
                  subst c15
                  have H1 : (some false) = some r := by rw [if_neg (show ¬ (false = true) by decide)] at H; exact H
                  clear H
                  have H := H1
                  clear H1
                  obtain rfl := Option.some.inj H
                  have hcz26_0 : wr.cell? ⟨gb248, 0, none⟩ = some (.slice A0_0 l0_0.length c0_0) := (blk_cell BK248.out 0).trans rfl
                  have hcz26_1 : wr.cell? ⟨gb248, 1, none⟩ = some (.int .i64 a0_1) := (blk_cell BK248.out 1).trans rfl
                  have hfz26_0 := blk_frozen BK248.out 0
                  have hfz26_1 := blk_frozen BK248.out 1
                  try go_wp2
                  have n0_ := Aside0.mk (blk_drew BK248.out)
                  have n1_ := Aside0.mk (below_drew1 HB.out)
                  clear BK248
                  clear HB
                  have BK248 := n0_
                  have HB := n1_
                  clear n0_ n1_
                  have p249 : 0 ≤ (x3_2 : Int) := of_decide_eq_true (by first | (with_reducible assumption) | assumption)
                  have q249 : x3_2 < (l0_0.length : Int) := of_decide_eq_true (by first | (with_reducible assumption) | assumption)
                  obtain ⟨ad249, e249, hx249_0, hx249_1, hx249_2, hx249_3, hx249_4, hx249_5, hx249_6, hx249_7, hx249_8, hx249_9, hx249_10⟩ := at_T29 HR0_0.out x3_2 p249 q249
                  have hw249_10 := hx249_10
                  have hw249_9 := hx249_9
                  have hw249_8 := hx249_8
                  have hw249_7 := hx249_7
                  have hw249_6 := hx249_6
                  have hw249_5 := hx249_5
                  have hw249_4 := hx249_4
                  have hw249_3 := hx249_3
                  have hw249_2 := hx249_2
                  have hw249_1 := hx249_1
                  have hw249_0 := hx249_0
                  cases e249
                  replace hx249_0 := (HB.out.cell (World.block_lt_of_cell? w _ hx249_0)).trans hx249_0
                  replace hx249_1 := (HB.out.cell (World.block_lt_of_cell? w _ hx249_1)).trans hx249_1
                  replace hx249_2 := (HB.out.cell (World.block_lt_of_cell? w _ hx249_2)).trans hx249_2
                  replace hx249_3 := (HB.out.cell (World.block_lt_of_cell? w _ hx249_3)).trans hx249_3
                  replace hx249_4 := (HB.out.cell (World.block_lt_of_cell? w _ hx249_4)).trans hx249_4
                  replace hx249_5 := (HB.out.cell (World.block_lt_of_cell? w _ hx249_5)).trans hx249_5
                  replace hx249_6 := (HB.out.cell (World.block_lt_of_cell? w _ hx249_6)).trans hx249_6
                  replace hx249_7 := (HB.out.cell (World.block_lt_of_cell? w _ hx249_7)).trans hx249_7
                  replace hx249_8 := (HB.out.cell (World.block_lt_of_cell? w _ hx249_8)).trans hx249_8
                  replace hx249_9 := (HB.out.cell (World.block_lt_of_cell? w _ hx249_9)).trans hx249_9
                  replace hx249_10 := (HB.out.cell (World.block_lt_of_cell? w _ hx249_10)).trans hx249_10
                  replace p249 := eq_true p249
                  replace q249 := eq_true q249
                  refine start_ (n := 19) (S := fun w' => w'.cell? ⟨gb248, 0, none⟩ = some (.slice (some ad249) l0_0.length c0_0) ∧ w'.cell? ⟨gb248, 1, none⟩ = some (.int .i64 a0_1) ∧ w'.cell? (ad249.add ((x3_2).toNat * 11)) = some (.int .i64 ((rd_T29 l0_0 x3_2).f0.f0)) ∧ w'.cell? ⟨(ad249.add ((x3_2).toNat * 11)).block, (ad249.add ((x3_2).toNat * 11)).off + 1, none⟩ = some (.int .i64 ((rd_T29 l0_0 x3_2).f0.f1)) ∧ w'.cell? ⟨(ad249.add ((x3_2).toNat * 11)).block, (ad249.add ((x3_2).toNat * 11)).off + 2, none⟩ = some (.int .i64 ((rd_T29 l0_0 x3_2).f0.f2)) ∧ w'.cell? ⟨(ad249.add ((x3_2).toNat * 11)).block, (ad249.add ((x3_2).toNat * 11)).off + 3, none⟩ = some (.bool ((rd_T29 l0_0 x3_2).f0.f3)) ∧ w'.cell? ⟨(ad249.add ((x3_2).toNat * 11)).block, (ad249.add ((x3_2).toNat * 11)).off + 4, none⟩ = some (.int .i64 ((rd_T29 l0_0 x3_2).f1.f0)) ∧ w'.cell? ⟨(ad249.add ((x3_2).toNat * 11)).block, (ad249.add ((x3_2).toNat * 11)).off + 5, none⟩ = some (.int .i64 ((rd_T29 l0_0 x3_2).f1.f1)) ∧ w'.cell? ⟨(ad249.add ((x3_2).toNat * 11)).block, (ad249.add ((x3_2).toNat * 11)).off + 6, none⟩ = some (.int .i64 ((rd_T29 l0_0 x3_2).f1.f2)) ∧ w'.cell? ⟨(ad249.add ((x3_2).toNat * 11)).block, (ad249.add ((x3_2).toNat * 11)).off + 7, none⟩ = some (.int .i64 ((rd_T29 l0_0 x3_2).f2)) ∧ w'.cell? ⟨(ad249.add ((x3_2).toNat * 11)).block, (ad249.add ((x3_2).toNat * 11)).off + 8, none⟩ = some (.int .i64 ((rd_T29 l0_0 x3_2).f3)) ∧ w'.cell? ⟨(ad249.add ((x3_2).toNat * 11)).block, (ad249.add ((x3_2).toNat * 11)).off + 9, none⟩ = some (.int .u32 ((rd_T29 l0_0 x3_2).f4)) ∧ w'.cell? ⟨(ad249.add ((x3_2).toNat * 11)).block, (ad249.add ((x3_2).toNat * 11)).off + 10, none⟩ = some (.int .i64 ((rd_T29 l0_0 x3_2).f5))) (ds := []) #[false, false, false, false, false, false, false, false, false, false, false, false, false, false, false, false, false, false, false] (by kernel_rfl) rfl rfl ⟨(blk_cell BK248.out 0).trans rfl, (blk_cell BK248.out 1).trans rfl, ((HB.out.cell (World.block_lt_of_cell? w _ hw249_0)).trans hw249_0), ((HB.out.cell (World.block_lt_of_cell? w _ hw249_1)).trans hw249_1), ((HB.out.cell (World.block_lt_of_cell? w _ hw249_2)).trans hw249_2), ((HB.out.cell (World.block_lt_of_cell? w _ hw249_3)).trans hw249_3), ((HB.out.cell (World.block_lt_of_cell? w _ hw249_4)).trans hw249_4), ((HB.out.cell (World.block_lt_of_cell? w _ hw249_5)).trans hw249_5), ((HB.out.cell (World.block_lt_of_cell? w _ hw249_6)).trans hw249_6), ((HB.out.cell (World.block_lt_of_cell? w _ hw249_7)).trans hw249_7), ((HB.out.cell (World.block_lt_of_cell? w _ hw249_8)).trans hw249_8), ((HB.out.cell (World.block_lt_of_cell? w _ hw249_9)).trans hw249_9), ((HB.out.cell (World.block_lt_of_cell? w _ hw249_10)).trans hw249_10)⟩ (fun hHeld => ?_); refine with_tabW weftlineref14_Good.tab6 weftlineref14_Good.bits6 (fun HT_ HW_ => ?_)
                  generalize wr.drew = w27 at BK248 HB hx249_0 hx249_1 hx249_10 hx249_2 hx249_3 hx249_4 hx249_5 hx249_6 hx249_7 hx249_8 hx249_9 hHeld ⊢
                  refine pure_ (i := 0) (N := some 34) (v := ?_) (a' := ?_) #[true, false, false, false, false, false, false, false, false, false, false, false, false, false, false, false, false, false, false] rfl rfl (any_of HT_.out (by kernel_rfl)) (fun _ _ _ h => h) (Or.inl ⟨by rfl, ?_⟩) ?_ ?_
                  rotate_left
                  · intro w'
                    go_simp
                    with_reducible rfl
                  rotate_left
                  · simp only [Act.put, List.setIfInBounds_toArray, List.set_cons_zero, List.set_cons_succ, i64_w, i32_w]
                    rfl
                  refine pure_ (i := 2) (N := some 36) (v := ?_) (a' := ?_) #[true, false, true, false, false, false, false, false, false, false, false, false, false, false, false, false, false, false, false] rfl rfl (any_of HT_.out (by kernel_rfl)) (fun _ _ _ h => h) (Or.inl ⟨by rfl, ?_⟩) ?_ ?_
                  rotate_left
                  · intro w'
                    go_simp
                    with_reducible rfl
                  rotate_left
                  · simp only [Act.put, List.setIfInBounds_toArray, List.set_cons_zero, List.set_cons_succ, i64_w, i32_w]
                    rfl
                  refine take_ (i := 1) (N := some 35) (v := ?_) (a' := ?_) #[true, true, true, false, false, false, false, false, false, false, false, false, false, false, false, false, false, false, false] rfl rfl (take_ofW HT_.out HW_.out (by kernel_rfl)) (fun _ _ _ h => h) (Or.inl ⟨by rfl, ?_⟩) hHeld ?_ ?_
                  rotate_left
                  · rintro w' ⟨s0, s1, s2, s3, s4, s5, s6, s7, s8, s9, s10, s11, s12⟩
                    go_simp
                    with_reducible rfl
                  rotate_left
                  · simp only [Act.put, List.setIfInBounds_toArray, List.set_cons_zero, List.set_cons_succ, i64_w, i32_w]
                    rfl
                  refine pure_ (i := 3) (N := some 37) (v := ?_) (a' := ?_) #[true, true, true, true, false, false, false, false, false, false, false, false, false, false, false, false, false, false, false] rfl rfl (any_of HT_.out (by kernel_rfl)) (fun _ _ _ h => h) (Or.inl ⟨by rfl, ?_⟩) ?_ ?_
                  rotate_left
                  · intro w'
                    go_simp
                    with_reducible rfl
                  rotate_left
                  · simp only [Act.put, List.setIfInBounds_toArray, List.set_cons_zero, List.set_cons_succ, i64_w, i32_w]
                    rfl
                  refine take_ (i := 4) (N := some 38) (v := ?_) (a' := ?_) #[true, true, true, true, true, false, false, false, false, false, false, false, false, false, false, false, false, false, false] rfl rfl (take_ofW HT_.out HW_.out (by kernel_rfl)) (fun _ _ _ h => h) (Or.inl ⟨by rfl, ?_⟩) hHeld ?_ ?_
                  rotate_left
                  · rintro w' ⟨s0, s1, s2, s3, s4, s5, s6, s7, s8, s9, s10, s11, s12⟩
                    go_simp
                    with_reducible rfl
                  rotate_left
                  · simp only [Act.put, List.setIfInBounds_toArray, List.set_cons_zero, List.set_cons_succ, i64_w, i32_w]
                    rfl
                  refine one_ (i := 5) (N := some 39) #[true, true, true, true, true, true, false, false, false, false, false, false, false, false, false, false, false, false, false] rfl rfl (one_of HT_.out (by kernel_rfl)) (by decide) (fun K hK => ?_)
                  refine goes_ Try.func19 (by kernel_rfl) rfl #[.agg #[.int .i64 ((rd_T29 l0_0 x3_2).f0.f0), .int .i64 ((rd_T29 l0_0 x3_2).f0.f1), .int .i64 ((rd_T29 l0_0 x3_2).f0.f2), .bool ((rd_T29 l0_0 x3_2).f0.f3), .int .i64 ((rd_T29 l0_0 x3_2).f1.f0), .int .i64 ((rd_T29 l0_0 x3_2).f1.f1), .int .i64 ((rd_T29 l0_0 x3_2).f1.f2), .int .i64 ((rd_T29 l0_0 x3_2).f2), .int .i64 ((rd_T29 l0_0 x3_2).f3), .int .u32 ((rd_T29 l0_0 x3_2).f4), .int .i64 ((rd_T29 l0_0 x3_2).f5)]] (by rfl) rfl rfl (by (try simp only [List.map_toArray, List.map_cons, List.map_nil]); first | done | rfl | (simp only [List.length_drop, List.length_take]; rfl)) ?_
                  with_reducible refine (weftlineref13_Good.calls k2 ((rd_T29 l0_0 x3_2).f0.f0) ((rd_T29 l0_0 x3_2).f0.f1) ((rd_T29 l0_0 x3_2).f0.f2) ((rd_T29 l0_0 x3_2).f0.f3) ((rd_T29 l0_0 x3_2).f1.f0) ((rd_T29 l0_0 x3_2).f1.f1) ((rd_T29 l0_0 x3_2).f1.f2) ((rd_T29 l0_0 x3_2).f2) ((rd_T29 l0_0 x3_2).f3) ((rd_T29 l0_0 x3_2).f4) ((rd_T29 l0_0 x3_2).f5) false _ A14.out).mono ?_
                  rintro e w28 ⟨rfl, hb⟩
                  refine ⟨_, rfl, ?_⟩
                  have n0_ := Aside0.mk (blk_below (g := gb248) (o := .cells #[.slice (some ad249) l0_0.length c0_0, .int .i64 a0_1] 66 (0, 0)) (by (with_reducible repeat (first | refine blk_drewN ?_ _ | refine blk_drew ?_ | refine blk_alloc ?_ _)); exact BK248.out) hb)
                  have n1_ := Aside0.mk (below_step (by repeat (first | (with_reducible first | exact HB.out | apply below_alloc | apply pw_below_drewN | apply below_drew1 | refine below_set ?_ GE248.out) | exact HB.out)) hb)
                  clear BK248
                  clear HB
                  have BK248 := n0_
                  have HB := n1_
                  clear n0_ n1_
                  (try clear hb)
                  (try clear hb2)
                  (try clear hk)
                  (try clear hi)
                  refine hK.out _ _ ⟨(blk_cell BK248.out 0).trans rfl, (blk_cell BK248.out 1).trans rfl, ((HB.out.cell (World.block_lt_of_cell? w _ hw249_0)).trans hw249_0), ((HB.out.cell (World.block_lt_of_cell? w _ hw249_1)).trans hw249_1), ((HB.out.cell (World.block_lt_of_cell? w _ hw249_2)).trans hw249_2), ((HB.out.cell (World.block_lt_of_cell? w _ hw249_3)).trans hw249_3), ((HB.out.cell (World.block_lt_of_cell? w _ hw249_4)).trans hw249_4), ((HB.out.cell (World.block_lt_of_cell? w _ hw249_5)).trans hw249_5), ((HB.out.cell (World.block_lt_of_cell? w _ hw249_6)).trans hw249_6), ((HB.out.cell (World.block_lt_of_cell? w _ hw249_7)).trans hw249_7), ((HB.out.cell (World.block_lt_of_cell? w _ hw249_8)).trans hw249_8), ((HB.out.cell (World.block_lt_of_cell? w _ hw249_9)).trans hw249_9), ((HB.out.cell (World.block_lt_of_cell? w _ hw249_10)).trans hw249_10)⟩ (fun hHeld => ?_)
                  clear hK K
                  refine norm_ (a' := ?_) ?_ ?_
                  rotate_left
                  · show Act.put _ (some 39) _ = _
                    simp only [Act.put, List.setIfInBounds_toArray, List.set_cons_zero, List.set_cons_succ, i64_w, i32_w]
                    rfl
                  refine pure_ (i := 6) (N := some 40) (v := ?_) (a' := ?_) #[true, true, true, true, true, true, true, false, false, false, false, false, false, false, false, false, false, false, false] rfl rfl (any_of HT_.out (by kernel_rfl)) (fun _ _ _ h => h) (Or.inl ⟨by rfl, ?_⟩) ?_ ?_
                  rotate_left
                  · intro w'
                    go_simp
                    with_reducible rfl
                  rotate_left
                  · simp only [Act.put, List.setIfInBounds_toArray, List.set_cons_zero, List.set_cons_succ, i64_w, i32_w]
                    rfl
                  refine pure_ (i := 7) (N := some 41) (v := ?_) (a' := ?_) #[true, true, true, true, true, true, true, true, false, false, false, false, false, false, false, false, false, false, false] rfl rfl (any_of HT_.out (by kernel_rfl)) (fun _ _ _ h => h) (Or.inl ⟨by rfl, ?_⟩) ?_ ?_
                  rotate_left
                  · intro w'
                    go_simp
                    with_reducible rfl
                  rotate_left
                  · simp only [Act.put, List.setIfInBounds_toArray, List.set_cons_zero, List.set_cons_succ, i64_w, i32_w]
                    rfl
                  refine pure_ (i := 8) (N := some 42) (v := undef) (a' := ?_) #[true, true, true, true, true, true, true, true, true, false, false, false, false, false, false, false, false, false, false] rfl rfl (any_of HT_.out (by kernel_rfl)) (fun _ _ _ h => h) (Or.inr ⟨by rfl, rfl⟩) ?_ ?_
                  rotate_left
                  · simp only [Act.put, List.setIfInBounds_toArray, List.set_cons_zero, List.set_cons_succ, i64_w, i32_w]
                    rfl
                  refine pure_ (i := 9) (N := some 43) (v := undef) (a' := ?_) #[true, true, true, true, true, true, true, true, true, true, false, false, false, false, false, false, false, false, false] rfl rfl (any_of HT_.out (by kernel_rfl)) (fun _ _ _ h => h) (Or.inr ⟨by rfl, rfl⟩) ?_ ?_
                  rotate_left
                  · simp only [Act.put, List.setIfInBounds_toArray, List.set_cons_zero, List.set_cons_succ, i64_w, i32_w]
                    rfl
                  refine pure_ (i := 10) (N := some 44) (v := undef) (a' := ?_) #[true, true, true, true, true, true, true, true, true, true, true, false, false, false, false, false, false, false, false] rfl rfl (any_of HT_.out (by kernel_rfl)) (fun _ _ _ h => h) (Or.inr ⟨by rfl, rfl⟩) ?_ ?_
                  rotate_left
                  · simp only [Act.put, List.setIfInBounds_toArray, List.set_cons_zero, List.set_cons_succ, i64_w, i32_w]
                    rfl
                  refine pure_ (i := 11) (N := some 45) (v := undef) (a' := ?_) #[true, true, true, true, true, true, true, true, true, true, true, true, false, false, false, false, false, false, false] rfl rfl (any_of HT_.out (by kernel_rfl)) (fun _ _ _ h => h) (Or.inr ⟨by rfl, rfl⟩) ?_ ?_
                  rotate_left
                  · simp only [Act.put, List.setIfInBounds_toArray, List.set_cons_zero, List.set_cons_succ, i64_w, i32_w]
                    rfl
                  refine pure_ (i := 12) (N := some 46) (v := undef) (a' := ?_) #[true, true, true, true, true, true, true, true, true, true, true, true, true, false, false, false, false, false, false] rfl rfl (any_of HT_.out (by kernel_rfl)) (fun _ _ _ h => h) (Or.inr ⟨by rfl, rfl⟩) ?_ ?_
                  rotate_left
                  · simp only [Act.put, List.setIfInBounds_toArray, List.set_cons_zero, List.set_cons_succ, i64_w, i32_w]
                    rfl
                  refine pure_ (i := 13) (N := some 47) (v := undef) (a' := ?_) #[true, true, true, true, true, true, true, true, true, true, true, true, true, true, false, false, false, false, false] rfl rfl (any_of HT_.out (by kernel_rfl)) (fun _ _ _ h => h) (Or.inr ⟨by rfl, rfl⟩) ?_ ?_
                  rotate_left
                  · simp only [Act.put, List.setIfInBounds_toArray, List.set_cons_zero, List.set_cons_succ, i64_w, i32_w]
                    rfl
                  refine pure_ (i := 14) (N := some 48) (v := undef) (a' := ?_) #[true, true, true, true, true, true, true, true, true, true, true, true, true, true, true, false, false, false, false] rfl rfl (any_of HT_.out (by kernel_rfl)) (fun _ _ _ h => h) (Or.inr ⟨by rfl, rfl⟩) ?_ ?_
                  rotate_left
                  · simp only [Act.put, List.setIfInBounds_toArray, List.set_cons_zero, List.set_cons_succ, i64_w, i32_w]
                    rfl
                  refine pure_ (i := 15) (N := some 49) (v := undef) (a' := ?_) #[true, true, true, true, true, true, true, true, true, true, true, true, true, true, true, true, false, false, false] rfl rfl (any_of HT_.out (by kernel_rfl)) (fun _ _ _ h => h) (Or.inr ⟨by rfl, rfl⟩) ?_ ?_
                  rotate_left
                  · simp only [Act.put, List.setIfInBounds_toArray, List.set_cons_zero, List.set_cons_succ, i64_w, i32_w]
                    rfl
                  refine pure_ (i := 16) (N := some 50) (v := undef) (a' := ?_) #[true, true, true, true, true, true, true, true, true, true, true, true, true, true, true, true, true, false, false] rfl rfl (any_of HT_.out (by kernel_rfl)) (fun _ _ _ h => h) (Or.inr ⟨by rfl, rfl⟩) ?_ ?_
                  rotate_left
                  · simp only [Act.put, List.setIfInBounds_toArray, List.set_cons_zero, List.set_cons_succ, i64_w, i32_w]
                    rfl
                  refine pure_ (i := 17) (N := some 51) (v := undef) (a' := ?_) #[true, true, true, true, true, true, true, true, true, true, true, true, true, true, true, true, true, true, false] rfl rfl (any_of HT_.out (by kernel_rfl)) (fun _ _ _ h => h) (Or.inr ⟨by rfl, rfl⟩) ?_ ?_
                  rotate_left
                  · simp only [Act.put, List.setIfInBounds_toArray, List.set_cons_zero, List.set_cons_succ, i64_w, i32_w]
                    rfl
                  refine pure_ (i := 18) (N := some 52) (v := ?_) (a' := ?_) #[true, true, true, true, true, true, true, true, true, true, true, true, true, true, true, true, true, true, true] rfl rfl (any_of HT_.out (by kernel_rfl)) (fun _ _ _ h => h) (Or.inl ⟨by rfl, ?_⟩) ?_ ?_
                  rotate_left
                  · intro w'
                    go_simp
                    with_reducible rfl
                  rotate_left
                  · simp only [Act.put, List.setIfInBounds_toArray, List.set_cons_zero, List.set_cons_succ, i64_w, i32_w]
                    rfl
                  refine done_ (done_of HT_.out (by kernel_rfl)) ?_
                  try go_wp2
                  go_ret
                  exact ⟨by first | rfl | (simp [errW_none, errW_some] <;> rfl) | (simp [*, errW_none, errW_some] <;> rfl), by repeat (first | (with_reducible first | exact HB.out | apply below_alloc | apply pw_below_drewN | apply below_drew1 | refine below_set ?_ GE248.out) | exact HB.out)⟩
              · rw [if_neg c13] at H
                exact absurd H (by simp)
            · rw [if_neg c12] at H
              have c12b0 : decide (x3_2 < (l0_0.length : Int)) = false := decide_eq_false c12
              clear c12
              obtain rfl := Option.some.inj H
              have hcz29_0 : wr.cell? ⟨gb248, 0, none⟩ = some (.slice A0_0 l0_0.length c0_0) := (blk_cell BK248.out 0).trans rfl
              have hcz29_1 : wr.cell? ⟨gb248, 1, none⟩ = some (.int .i64 a0_1) := (blk_cell BK248.out 1).trans rfl
              have hfz29_0 := blk_frozen BK248.out 0
              have hfz29_1 := blk_frozen BK248.out 1
              go_wp2
              go_ret
              exact ⟨by first | rfl | (simp [errW_none, errW_some] <;> rfl) | (simp [*, errW_none, errW_some] <;> rfl), by repeat (first | (with_reducible first | exact HB.out | apply below_alloc | apply pw_below_drewN | apply below_drew1 | refine below_set ?_ GE248.out) | exact HB.out)⟩

end Go.Proofs.Ytblooffiggciiaa.PPs
/- PPsx50 -/
namespace Go.Proofs.Ytblooffiggciiaa.PPs
open Go.RowKit Go.Proofs.YtblooffiggciiaaW.PrintWords Go.Proofs.YtblooffiggciiaaW.PrintLast Go.Proofs.YtblooffiggciiaaW.PrintMore
attribute [local go_sem] max2_int min2_int max_two min_two max_three min_three max_four min_four   -- for this text's walks alone
attribute [local go_sem] Go.Proofs.Ytblooffiggciiaa.Aid.isSome_setCell
def weftlinenum_Num.f (a0 : Option Int) : Option (Int) := if a0.isNone = true then (some 0) else (if (a0.getD 0) = 0 then (some (-1)) else (some (a0.getD 0)))
set_option maxHeartbeats 8000000 in
set_option maxRecDepth 100000 in
theorem weftlinenum_Num.calls (a0 : Option Int) (r : Int) (w : World) (h : weftlinenum_Num.f a0 = some r) :
    Calls Try.prog 33 #[errW a0] w fun e w' => e = .returned (.int .i64 r) ∧ Drawn0 w w' := by
  have hu37 := Try.underlying37
  have hu42 := Try.underlying42
  have hta : ∀ (v : Value) (W : World), (Instr.typeAssert (.iface 42 v) 37 42 true).run Try.prog W = .ok (.tuple #[v, .bool true]) W := fun v W => by rfl
  have H : (if a0.isNone = true then (some 0) else (if (a0.getD 0) = 0 then (some (-1)) else (some (a0.getD 0)))) = some r := h
  clear h
  rcases a0 with _ | q304
  · have H1 : (some 0) = some r := by rw [if_pos (show (none : Option Int).isNone = true by rfl)] at H; exact H
    clear H
    have H := H1
    clear H1
    simp only [errW_none, errW_some]
    obtain rfl := Option.some.inj H
    go_enter Try.func33, Try.ntmps33
    go_wp2
    go_ret
    exact ⟨by first | rfl | (simp; done) | (simp [*]; done), by repeat (first | exact Drawn0.refl _ | apply Drawn0.step)⟩
  · have H1 : (if q304 = 0 then (some (-1)) else (some q304)) = some r := by rw [if_neg (show ¬ (some q304).isNone = true by simp)] at H; exact H
    clear H
    have H := H1
    clear H1
    simp only [errW_none, errW_some]
    by_cases c2 : q304 = 0
    · rw [if_pos c2] at H
      have c2b0 : (q304 == 0) = true := beq_iff_eq.mpr c2
      have c2b1 : (q304 != 0) = false := bne_eq_false_iff_eq.mpr c2
      clear c2
      obtain rfl := Option.some.inj H
      go_enter Try.func33, Try.ntmps33
      go_wp2
      go_ret
      exact ⟨by first | rfl | (simp; done) | (simp [*]; done), by repeat (first | exact Drawn0.refl _ | apply Drawn0.step)⟩
    · rw [if_neg c2] at H
      have c2b0 : (q304 == 0) = false := beq_eq_false_iff_ne.mpr c2
      have c2b1 : (q304 != 0) = true := bne_iff_ne.mpr c2
      obtain rfl := Option.some.inj H
      go_enter Try.func33, Try.ntmps33
      go_wp2
      go_ret
      exact ⟨by first | rfl | (simp; done) | (simp [*]; done), by repeat (first | exact Drawn0.refl _ | apply Drawn0.step)⟩

end Go.Proofs.Ytblooffiggciiaa.PPs
/- PPsx1 -/
namespace Go.Proofs.Ytblooffiggciiaa.PPs
open Go.RowKit Go.Proofs.YtblooffiggciiaaW.PrintWords Go.Proofs.YtblooffiggciiaaW.PrintLast Go.Proofs.YtblooffiggciiaaW.PrintMore
attribute [local go_sem] max2_int min2_int max_two min_two max_three min_three max_four min_four   -- for this text's walks alone
attribute [local go_sem] Go.Proofs.Ytblooffiggciiaa.Aid.isSome_setCell
theorem eqA23 (d : Nat) (w : World) (x0 y0 : Int) (x1 y1 : Int) (x2 y2 : Int) (x3 y3 : Bool) :
    (Op.equalIn (d + 2) 23 (.agg #[.int .i64 x0, .int .i64 x1, .int .i64 x2, .bool x3]) (.agg #[.int .i64 y0, .int .i64 y1, .int .i64 y2, .bool y3])).run Try.prog w = .ok (x0 == y0 && (x1 == y1 && (x2 == y2 && (x3 == y3)))) w := by
  refine eqA_of Try.underlying23 (by kernel_rfl) ?_
  refine eqf_cons (by rfl) (by go_simp; rfl) (by go_simp; rfl) (by go_simp) ?_
  refine eqf_cons (by rfl) (by go_simp; rfl) (by go_simp; rfl) (by go_simp) ?_
  refine eqf_cons (by rfl) (by go_simp; rfl) (by go_simp; rfl) (by go_simp) ?_
  exact eqf_last (by rfl) (by go_simp; rfl) (by go_simp; rfl) (by go_simp)
theorem eqA25 (d : Nat) (w : World) (x0 y0 : Int) (x1 y1 : Int) (x2 y2 : Int) :
    (Op.equalIn (d + 2) 25 (.agg #[.int .i64 x0, .int .i64 x1, .int .i64 x2]) (.agg #[.int .i64 y0, .int .i64 y1, .int .i64 y2])).run Try.prog w = .ok (x0 == y0 && (x1 == y1 && (x2 == y2))) w := by
  refine eqA_of Try.underlying25 (by kernel_rfl) ?_
  refine eqf_cons (by rfl) (by go_simp; rfl) (by go_simp; rfl) (by go_simp) ?_
  refine eqf_cons (by rfl) (by go_simp; rfl) (by go_simp; rfl) (by go_simp) ?_
  exact eqf_last (by rfl) (by go_simp; rfl) (by go_simp; rfl) (by go_simp)
theorem eqA29 (d : Nat) (w : World) (x0 y0 : Int) (x1 y1 : Int) (x2 y2 : Int) (x3 y3 : Bool) (x4 y4 : Int) (x5 y5 : Int) (x6 y6 : Int) (x7 y7 : Int) (x8 y8 : Int) (x9 y9 : Int) (x10 y10 : Int) :
    (Op.equalIn (d + 3) 29 (.agg #[.int .i64 x0, .int .i64 x1, .int .i64 x2, .bool x3, .int .i64 x4, .int .i64 x5, .int .i64 x6, .int .i64 x7, .int .i64 x8, .int .u32 x9, .int .i64 x10]) (.agg #[.int .i64 y0, .int .i64 y1, .int .i64 y2, .bool y3, .int .i64 y4, .int .i64 y5, .int .i64 y6, .int .i64 y7, .int .i64 y8, .int .u32 y9, .int .i64 y10])).run Try.prog w = .ok ((x0 == y0 && (x1 == y1 && (x2 == y2 && (x3 == y3)))) && ((x4 == y4 && (x5 == y5 && (x6 == y6))) && (x7 == y7 && (x8 == y8 && (x9 == y9 && (x10 == y10)))))) w := by
  refine eqA_of Try.underlying29 (by kernel_rfl) ?_
  refine eqf_cons (by rfl) (by go_simp) (by go_simp) (eqA23 (d + 0) w _ _ _ _ _ _ _ _) ?_
  refine eqf_cons (by rfl) (by go_simp) (by go_simp) (eqA25 (d + 0) w _ _ _ _ _ _) ?_
  refine eqf_cons (by rfl) (by go_simp; rfl) (by go_simp; rfl) (by go_simp) ?_
  refine eqf_cons (by rfl) (by go_simp; rfl) (by go_simp; rfl) (by go_simp) ?_
  refine eqf_cons (by rfl) (by go_simp; rfl) (by go_simp; rfl) (by go_simp) ?_
  exact eqf_last (by rfl) (by go_simp; rfl) (by go_simp; rfl) (by go_simp)
end Go.Proofs.Ytblooffiggciiaa.PPs
/- PPsx2 -/
namespace Go.Proofs.Ytblooffiggciiaa.PPs
open Go.RowKit Go.Proofs.YtblooffiggciiaaW.PrintWords Go.Proofs.YtblooffiggciiaaW.PrintLast Go.Proofs.YtblooffiggciiaaW.PrintMore
attribute [local go_sem] max2_int min2_int max_two min_two max_three min_three max_four min_four   -- for this text's walks alone
attribute [local go_sem] Go.Proofs.Ytblooffiggciiaa.Aid.isSome_setCell
theorem eqA31 (d : Nat) (w : World) (x0 y0 : Int) (x1 y1 : Int) (x2 y2 : Int) (x3 y3 : Bool) :
    (Op.equalIn (d + 2) 31 (.agg #[.int .i64 x0, .int .i64 x1, .int .i64 x2, .bool x3]) (.agg #[.int .i64 y0, .int .i64 y1, .int .i64 y2, .bool y3])).run Try.prog w = .ok (x0 == y0 && (x1 == y1 && (x2 == y2 && (x3 == y3)))) w := by
  refine eqA_of Try.underlying31 (by kernel_rfl) ?_
  refine eqf_cons (by rfl) (by go_simp; rfl) (by go_simp; rfl) (by go_simp) ?_
  refine eqf_cons (by rfl) (by go_simp; rfl) (by go_simp; rfl) (by go_simp) ?_
  refine eqf_cons (by rfl) (by go_simp; rfl) (by go_simp; rfl) (by go_simp) ?_
  exact eqf_last (by rfl) (by go_simp; rfl) (by go_simp; rfl) (by go_simp)
theorem eqA32 (d : Nat) (w : World) (x0 y0 : Int) (x1 y1 : Int) (x2 y2 : Int) :
    (Op.equalIn (d + 2) 32 (.agg #[.int .i64 x0, .int .i64 x1, .int .i64 x2]) (.agg #[.int .i64 y0, .int .i64 y1, .int .i64 y2])).run Try.prog w = .ok (x0 == y0 && (x1 == y1 && (x2 == y2))) w := by
  refine eqA_of Try.underlying32 (by kernel_rfl) ?_
  refine eqf_cons (by rfl) (by go_simp; rfl) (by go_simp; rfl) (by go_simp) ?_
  refine eqf_cons (by rfl) (by go_simp; rfl) (by go_simp; rfl) (by go_simp) ?_
  exact eqf_last (by rfl) (by go_simp; rfl) (by go_simp; rfl) (by go_simp)
theorem eqA34 (d : Nat) (w : World) (x0 y0 : Int) (x1 y1 : Int) (x2 y2 : Int) (x3 y3 : Bool) (x4 y4 : Int) (x5 y5 : Int) (x6 y6 : Int) (x7 y7 : Int) (x8 y8 : Int) (x9 y9 : Int) (x10 y10 : Int) :
    (Op.equalIn (d + 3) 34 (.agg #[.int .i64 x0, .int .i64 x1, .int .i64 x2, .bool x3, .int .i64 x4, .int .i64 x5, .int .i64 x6, .int .i64 x7, .int .i64 x8, .int .u32 x9, .int .i64 x10]) (.agg #[.int .i64 y0, .int .i64 y1, .int .i64 y2, .bool y3, .int .i64 y4, .int .i64 y5, .int .i64 y6, .int .i64 y7, .int .i64 y8, .int .u32 y9, .int .i64 y10])).run Try.prog w = .ok ((x0 == y0 && (x1 == y1 && (x2 == y2 && (x3 == y3)))) && ((x4 == y4 && (x5 == y5 && (x6 == y6))) && (x7 == y7 && (x8 == y8 && (x9 == y9 && (x10 == y10)))))) w := by
  refine eqA_of Try.underlying34 (by kernel_rfl) ?_
  refine eqf_cons (by rfl) (by go_simp) (by go_simp) (eqA31 (d + 0) w _ _ _ _ _ _ _ _) ?_
  refine eqf_cons (by rfl) (by go_simp) (by go_simp) (eqA32 (d + 0) w _ _ _ _ _ _) ?_
  refine eqf_cons (by rfl) (by go_simp; rfl) (by go_simp; rfl) (by go_simp) ?_
  refine eqf_cons (by rfl) (by go_simp; rfl) (by go_simp; rfl) (by go_simp) ?_
  refine eqf_cons (by rfl) (by go_simp; rfl) (by go_simp; rfl) (by go_simp) ?_
  exact eqf_last (by rfl) (by go_simp; rfl) (by go_simp; rfl) (by go_simp)
end Go.Proofs.Ytblooffiggciiaa.PPs
/- PPsxe -/
namespace Go.Proofs.Ytblooffiggciiaa.PPs
open Go.RowKit Go.Proofs.YtblooffiggciiaaW.PrintWords Go.Proofs.YtblooffiggciiaaW.PrintLast Go.Proofs.YtblooffiggciiaaW.PrintMore
theorem eqA60 (d : Nat) (w : World) (x0 y0 : Int) (x1 y1 : Int) (x2 y2 : Int) (x3 y3 : Int) :
    (Op.equalIn (d + 2) 60 (.agg #[.int .i64 x0, .int .i64 x1, .int .i64 x2, .int .i64 x3]) (.agg #[.int .i64 y0, .int .i64 y1, .int .i64 y2, .int .i64 y3])).run Try.prog w = .ok (x0 == y0 && (x1 == y1 && (x2 == y2 && (x3 == y3)))) w := by
  refine eqA_of Try.underlying60 (by kernel_rfl) ?_
  refine eqf_cons (by rfl) (by go_simp; rfl) (by go_simp; rfl) (by go_simp) ?_
  refine eqf_cons (by rfl) (by go_simp; rfl) (by go_simp; rfl) (by go_simp) ?_
  refine eqf_cons (by rfl) (by go_simp; rfl) (by go_simp; rfl) (by go_simp) ?_
  exact eqf_last (by rfl) (by go_simp; rfl) (by go_simp; rfl) (by go_simp)
end Go.Proofs.Ytblooffiggciiaa.PPs
