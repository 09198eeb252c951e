/- PathsChange: for every input the law returns true, and its arguments read as before: the row, out of the walk; no condition. -/
import Derived.Test.YtblooffiggciiaaZPathsChangeSaid4
import Derived.ProofKit
import Derived.OpenShut
import Derived.Deep.Slices
import Derived.ChangeArms
import Derived.Test.YtblooffiggciiaaRows
import Derived.WalkKit
import Derived.ShutString
import Derived.ChangeOld
import Derived.Below
import Derived.SizedLaws
import Derived.Carry
set_option linter.unusedVariables false
set_option linter.unusedSimpArgs false
/- PsAn -/
namespace Go.Proofs.Ytblooffiggciiaa.Ps
open Go.RowKit Go.Proofs.Ytblooffiggciiaa.PPs Go.Proofs.YtblooffiggciiaaW.PrintWords Go.Proofs.YtblooffiggciiaaW.PrintLast Go.Proofs.YtblooffiggciiaaW.PrintMore Go.Proofs.Ytblooffiggciiaa.Sh
attribute [local go_sem] Go.Proofs.Ytblooffiggciiaa.Aid.isSome_setCell
set_option maxHeartbeats 4000000 in
set_option maxRecDepth 100000 in
theorem del_err {w : World} {A : Option Addr} {c : Nat} {l : List S34} (hC : Kd.C k34 w A l.length l) (hcc : l.length ≤ c) (hl : l.length ≤ 1000) (p a : Int) (er : Int) (hf : fnd l p a = (0, some er)) :
    Calls Try.prog 58 #[.agg #[.slice A l.length c, .int .i64 p], .int .i64 a] w (SetR w [] 0 (some er)) := by
  have hB := b1 (b1 (Below.refl w.heap.size w) (.cells #[.slice A l.length c, .int .i64 p] 70)) (.cells #[.slice none 0 0, .int .i64 0] 70)
  have hL := ((BL.nil w).new (.cells #[.slice A l.length c, .int .i64 p] 70)).new (.cells #[.slice none 0 0, .int .i64 0] 70)
  rw [sz1] at hL
  have HC := Aside0.mk (Kd.C_alloc (Kd.C_alloc hC (.cells #[.slice A l.length c, .int .i64 p] 70)) (.cells #[.slice none 0 0, .int .i64 0] 70))
  have HF := Aside0.mk (find_calls (c := c) HC.out p a)
  rw [hf] at HF
  have HB := Aside0.mk hB
  have HL := Aside0.mk hL
  have hz := ck2 (HL.out.get 0 rfl)
  have hs : w.heap.size ≤ w.heap.size + 1 := by omega
  clear hB hL hC hf
  go_enter Try.func58, Try.ntmps58
  go_wp2_with fail
  refine HF.out.mono ?_
  rintro e w5 ⟨rfl, hb⟩
  have HL5 := Aside0.mk (HL.out.below hb)
  have HB5 := Aside0.mk (below_step HB.out hb)
  have HC5 := Aside0.mk (Kd.C_below HC.out hb)
  clear hb hz
  have hz := cc2 (HL5.out.get 1 rfl)
  have he : errW (some er) = Value.iface 42 (.int .i64 er) := rfl
  simp only [he]
  clear he
  go_wp2_with fail
  refine bodyPost_ret (results_ct rfl _ _ (w.heap.size + 1) 70 #[.slice none 0 0, .int .i64 0] (0, 0) _ rfl (put2 (HL5.out.get 1 rfl)) Try.underlying70 rfl (by kernel_rfl)) rfl ?_
  exact ⟨_, rfl, Kd.R_nil _ _ _ _ _, bel2 HB5.out hs⟩
set_option maxHeartbeats 4000000 in
set_option maxRecDepth 100000 in
theorem del_one {w : World} {A : Option Addr} {c : Nat} {l : List S34} (hC : Kd.C k34 w A l.length l) (hcc : l.length ≤ c) (hl : l.length ≤ 1000) (p a : Int) (i : Nat) (hf : fnd l p a = ((i : Int), none)) (h1 : l.length = 1) :
    Calls Try.prog 58 #[.agg #[.slice A l.length c, .int .i64 p], .int .i64 a] w (SetR w [] 0 (some 5)) := by
  have H1 := Aside0.mk h1
  clear h1
  have hB := b1 (b1 (Below.refl w.heap.size w) (.cells #[.slice A l.length c, .int .i64 p] 70)) (.cells #[.slice none 0 0, .int .i64 0] 70)
  have hL := ((BL.nil w).new (.cells #[.slice A l.length c, .int .i64 p] 70)).new (.cells #[.slice none 0 0, .int .i64 0] 70)
  rw [sz1] at hL
  have HC := Aside0.mk (Kd.C_alloc (Kd.C_alloc hC (.cells #[.slice A l.length c, .int .i64 p] 70)) (.cells #[.slice none 0 0, .int .i64 0] 70))
  have HF := Aside0.mk (find_calls (c := c) HC.out p a)
  rw [hf] at HF
  have HB := Aside0.mk hB
  have HL := Aside0.mk hL
  have hz := ck2 (HL.out.get 0 rfl)
  have hs : w.heap.size ≤ w.heap.size + 1 := by omega
  clear hB hL hC hf
  go_enter Try.func58, Try.ntmps58
  go_wp2_with fail
  refine HF.out.mono ?_
  rintro e w5 ⟨rfl, hb⟩
  have HL5 := Aside0.mk (HL.out.below hb)
  have HB5 := Aside0.mk (below_step HB.out hb)
  have HC5 := Aside0.mk (Kd.C_below HC.out hb)
  clear hb hz
  have hz := cc2 (HL5.out.get 1 rfl)
  have hx := ck2 (HL5.out.get 0 rfl)
  have h1' : ((l.length : Int) == 1) = true := by rw [beq_iff_eq]; have := H1.out; omega
  have he : errW (none) = Value.nilIface := rfl
  simp only [he]
  clear he
  go_wp2_with fail
  refine bodyPost_ret (results_ct rfl _ _ (w.heap.size + 1) 70 #[.slice none 0 0, .int .i64 0] (0, 0) _ rfl (put2 (HL5.out.get 1 rfl)) Try.underlying70 rfl (by kernel_rfl)) rfl ?_
  exact ⟨_, rfl, Kd.R_nil _ _ _ _ _, bel2 HB5.out hs⟩
set_option maxHeartbeats 4000000 in
set_option maxRecDepth 100000 in
theorem del_eq {w : World} {A : Option Addr} {c : Nat} {l : List S34} (hC : Kd.C k34 w A l.length l) (hcc : l.length ≤ c) (hl : l.length ≤ 1000) (a : Int) (i : Nat) (hi : i < l.length) (hf : fnd l (i : Int) a = ((i : Int), none)) (h1 : l.length ≠ 1) :
    Calls Try.prog 58 #[.agg #[.slice A l.length c, .int .i64 (i : Int)], .int .i64 a] w (SetR w (l.eraseIdx i) 0 none) := by
  have hB := b1 (b1 (Below.refl w.heap.size w) (.cells #[.slice A l.length c, .int .i64 (i : Int)] 70)) (.cells #[.slice none 0 0, .int .i64 0] 70)
  have hL := ((BL.nil w).new (.cells #[.slice A l.length c, .int .i64 (i : Int)] 70)).new (.cells #[.slice none 0 0, .int .i64 0] 70)
  rw [sz1] at hL
  have HC := Aside0.mk (Kd.C_alloc (Kd.C_alloc hC (.cells #[.slice A l.length c, .int .i64 (i : Int)] 70)) (.cells #[.slice none 0 0, .int .i64 0] 70))
  have HF := Aside0.mk (find_calls (c := c) HC.out (i : Int) a)
  rw [hf] at HF
  have HB := Aside0.mk hB
  have HL := Aside0.mk hL
  have hz := ck2 (HL.out.get 0 rfl)
  have hs : w.heap.size ≤ w.heap.size + 1 := by omega
  clear hB hL hC hf
  go_enter Try.func58, Try.ntmps58
  go_wp2_with fail
  refine HF.out.mono ?_
  rintro e w5 ⟨rfl, hb⟩
  have HL5 := Aside0.mk (HL.out.below hb)
  have HB5 := Aside0.mk (below_step HB.out hb)
  have HC5 := Aside0.mk (Kd.C_below HC.out hb)
  clear hb hz
  have hx := cc2 (HL5.out.get 0 rfl)
  have h1' : ¬ ((l.length : Int) = 1) := by omega
  have h2' : ((l.length : Int) == 1) = false := beq_eq_false_iff_ne.mpr h1'
  have HK := Aside0.mk (clone_calls w5 A c l hcc HC5.out (by omega))
  have hi1 : wrap64 ((i : Int) + 1) = (i : Int) + 1 := w64 (by omega) (by omega)
  have hi2 : IntKind.i64.wrap ((i : Int) + 1) = (i : Int) + 1 := by rw [IntKind.wrap_i64]; omega
  have he : errW (none) = Value.nilIface := rfl
  simp only [he]
  clear he
  go_wp2_with fail
  refine HK.out.mono ?_
  rintro e w6 ⟨A3, c3, rfl, hR, hb⟩
  obtain ⟨g3, cur, rfl, hg3, hrow⟩ := rowp_of hR (by omega)
  have HL6 := Aside0.mk (HL5.out.below hb)
  have HB6 := Aside0.mk (below_step HB5.out hb)
  have HD := Aside0.mk (sdelete_row hrow i hi hl)
  have HZ := Aside0.mk (below_size hb)
  have HZ5 := Aside0.mk (below_size HB5.out)
  have HG0 := Aside0.mk (blk_lt (HL5.out.get 0 rfl))
  have HG1 := Aside0.mk (blk_lt (HL5.out.get 1 rfl))
  have HG3 := Aside0.mk hg3
  clear hb hR hrow hx hg3
  have hx := cc2 (HL6.out.get 0 rfl)
  go_wp2_with fail
  refine HD.out.mono ?_
  rintro e w7 ⟨rfl, ⟨cur', hrow⟩, hbd⟩
  have hb5 := hbd w5.heap.size HG3.out HZ.out
  have HB7 := Aside0.mk (HB6.out.trans (hbd w.heap.size (Nat.le_trans HZ5.out HG3.out) (Nat.le_trans HZ5.out HZ.out)))
  have X0 := Aside0.mk ((hb5.block _ HG0.out).trans (HL6.out.get 0 rfl))
  have X1 := Aside0.mk ((hb5.block _ HG1.out).trans (HL6.out.get 1 rfl))
  have HR7 := Aside0.mk (rowp_R hrow (Nat.le_trans HZ5.out HG3.out))
  obtain ⟨n1, hn1⟩ : ∃ n1, n1 = l.length - 1 := ⟨_, rfl⟩
  rw [← hn1] at HR7 ⊢
  clear hbd hb5 hrow hx hn1
  have hne : w.heap.size + 1 ≠ w.heap.size := by omega
  have hx := cc2 X0.out
  have hY := Aside0.mk (far2 (v := .slice (some ⟨g3, 0, none⟩) n1 c3) (q := .int .i64 0) X1.out hne)
  have hY1 := Aside0.mk ((Below.heap_setCell w7 ⟨w.heap.size, 0, none⟩ (.slice (some ⟨g3, 0, none⟩) n1 c3) (w.heap.size + 1) hne).trans X1.out)
  have hz := cc2 X1.out
  go_wp2_with fail
  refine bodyPost_ret (results_ct rfl _ _ (w.heap.size + 1) 70 #[.slice (some ⟨g3, 0, none⟩) n1 c3, .int .i64 0] (0, 0) _ rfl (put2 hY.out) Try.underlying70 rfl (by kernel_rfl)) rfl ?_
  exact ⟨_, rfl, rr2 (rr2 HR7.out X0.out) hY.out, bel2 (bel2 HB7.out (Nat.le_refl _)) hs⟩
set_option maxHeartbeats 4000000 in
set_option maxRecDepth 100000 in
theorem del_lt {w : World} {A : Option Addr} {c : Nat} {l : List S34} (hC : Kd.C k34 w A l.length l) (hcc : l.length ≤ c) (hl : l.length ≤ 1000) (p a : Int) (i : Nat) (hi : i < l.length) (hf : fnd l p a = ((i : Int), none)) (h1 : l.length ≠ 1) (hp : (i : Int) < p) (hp1 : p < l.length) :
    Calls Try.prog 58 #[.agg #[.slice A l.length c, .int .i64 p], .int .i64 a] w (SetR w (l.eraseIdx i) (p - 1) none) := by
  have hB := b1 (b1 (Below.refl w.heap.size w) (.cells #[.slice A l.length c, .int .i64 p] 70)) (.cells #[.slice none 0 0, .int .i64 0] 70)
  have hL := ((BL.nil w).new (.cells #[.slice A l.length c, .int .i64 p] 70)).new (.cells #[.slice none 0 0, .int .i64 0] 70)
  rw [sz1] at hL
  have HC := Aside0.mk (Kd.C_alloc (Kd.C_alloc hC (.cells #[.slice A l.length c, .int .i64 p] 70)) (.cells #[.slice none 0 0, .int .i64 0] 70))
  have HF := Aside0.mk (find_calls (c := c) HC.out p a)
  rw [hf] at HF
  have HB := Aside0.mk hB
  have HL := Aside0.mk hL
  have hz := ck2 (HL.out.get 0 rfl)
  have hs : w.heap.size ≤ w.heap.size + 1 := by omega
  clear hB hL hC hf
  go_enter Try.func58, Try.ntmps58
  go_wp2_with fail
  refine HF.out.mono ?_
  rintro e w5 ⟨rfl, hb⟩
  have HL5 := Aside0.mk (HL.out.below hb)
  have HB5 := Aside0.mk (below_step HB.out hb)
  have HC5 := Aside0.mk (Kd.C_below HC.out hb)
  clear hb hz
  have q1 : ((i : Int) == p) = false := beq_eq_false_iff_ne.mpr (by omega)
  have q2 : ¬ ((i : Int) = p) := by omega
  have q3 : wrap64 (p - 1) = p - 1 := w64 (by omega) (by omega)
  have q4 : IntKind.i64.wrap (p - 1) = p - 1 := by rw [IntKind.wrap_i64]; omega
  have hx := cc2 (HL5.out.get 0 rfl)
  have h1' : ¬ ((l.length : Int) = 1) := by omega
  have h2' : ((l.length : Int) == 1) = false := beq_eq_false_iff_ne.mpr h1'
  have HK := Aside0.mk (clone_calls w5 A c l hcc HC5.out (by omega))
  have hi1 : wrap64 ((i : Int) + 1) = (i : Int) + 1 := w64 (by omega) (by omega)
  have hi2 : IntKind.i64.wrap ((i : Int) + 1) = (i : Int) + 1 := by rw [IntKind.wrap_i64]; omega
  have he : errW (none) = Value.nilIface := rfl
  simp only [he]
  clear he
  go_wp2_with fail
  refine HK.out.mono ?_
  rintro e w6 ⟨A3, c3, rfl, hR, hb⟩
  obtain ⟨g3, cur, rfl, hg3, hrow⟩ := rowp_of hR (by omega)
  have HL6 := Aside0.mk (HL5.out.below hb)
  have HB6 := Aside0.mk (below_step HB5.out hb)
  have HD := Aside0.mk (sdelete_row hrow i hi hl)
  have HZ := Aside0.mk (below_size hb)
  have HZ5 := Aside0.mk (below_size HB5.out)
  have HG0 := Aside0.mk (blk_lt (HL5.out.get 0 rfl))
  have HG1 := Aside0.mk (blk_lt (HL5.out.get 1 rfl))
  have HG3 := Aside0.mk hg3
  clear hb hR hrow hx hg3
  have hx := cc2 (HL6.out.get 0 rfl)
  go_wp2_with fail
  refine HD.out.mono ?_
  rintro e w7 ⟨rfl, ⟨cur', hrow⟩, hbd⟩
  have hb5 := hbd w5.heap.size HG3.out HZ.out
  have HB7 := Aside0.mk (HB6.out.trans (hbd w.heap.size (Nat.le_trans HZ5.out HG3.out) (Nat.le_trans HZ5.out HZ.out)))
  have X0 := Aside0.mk ((hb5.block _ HG0.out).trans (HL6.out.get 0 rfl))
  have X1 := Aside0.mk ((hb5.block _ HG1.out).trans (HL6.out.get 1 rfl))
  have HR7 := Aside0.mk (rowp_R hrow (Nat.le_trans HZ5.out HG3.out))
  obtain ⟨n1, hn1⟩ : ∃ n1, n1 = l.length - 1 := ⟨_, rfl⟩
  rw [← hn1] at HR7 ⊢
  clear hbd hb5 hrow hx hn1
  have hne : w.heap.size + 1 ≠ w.heap.size := by omega
  have hx := cc2 X0.out
  have hY := Aside0.mk (far2 (v := .slice (some ⟨g3, 0, none⟩) n1 c3) (q := .int .i64 (p - 1)) X1.out hne)
  have hY1 := Aside0.mk ((Below.heap_setCell w7 ⟨w.heap.size, 0, none⟩ (.slice (some ⟨g3, 0, none⟩) n1 c3) (w.heap.size + 1) hne).trans X1.out)
  have hz := cc2 X1.out
  go_wp2_with fail
  refine bodyPost_ret (results_ct rfl _ _ (w.heap.size + 1) 70 #[.slice (some ⟨g3, 0, none⟩) n1 c3, .int .i64 (p - 1)] (0, 0) _ rfl (put2 hY.out) Try.underlying70 rfl (by kernel_rfl)) rfl ?_
  exact ⟨_, rfl, rr2 (rr2 HR7.out X0.out) hY.out, bel2 (bel2 HB7.out (Nat.le_refl _)) hs⟩
set_option maxHeartbeats 4000000 in
set_option maxRecDepth 100000 in
theorem del_gt {w : World} {A : Option Addr} {c : Nat} {l : List S34} (hC : Kd.C k34 w A l.length l) (hcc : l.length ≤ c) (hl : l.length ≤ 1000) (p a : Int) (i : Nat) (hi : i < l.length) (hf : fnd l p a = ((i : Int), none)) (h1 : l.length ≠ 1) (hp : p < i) :
    Calls Try.prog 58 #[.agg #[.slice A l.length c, .int .i64 p], .int .i64 a] w (SetR w (l.eraseIdx i) p none) := by
  have hB := b1 (b1 (Below.refl w.heap.size w) (.cells #[.slice A l.length c, .int .i64 p] 70)) (.cells #[.slice none 0 0, .int .i64 0] 70)
  have hL := ((BL.nil w).new (.cells #[.slice A l.length c, .int .i64 p] 70)).new (.cells #[.slice none 0 0, .int .i64 0] 70)
  rw [sz1] at hL
  have HC := Aside0.mk (Kd.C_alloc (Kd.C_alloc hC (.cells #[.slice A l.length c, .int .i64 p] 70)) (.cells #[.slice none 0 0, .int .i64 0] 70))
  have HF := Aside0.mk (find_calls (c := c) HC.out p a)
  rw [hf] at HF
  have HB := Aside0.mk hB
  have HL := Aside0.mk hL
  have hz := ck2 (HL.out.get 0 rfl)
  have hs : w.heap.size ≤ w.heap.size + 1 := by omega
  clear hB hL hC hf
  go_enter Try.func58, Try.ntmps58
  go_wp2_with fail
  refine HF.out.mono ?_
  rintro e w5 ⟨rfl, hb⟩
  have HL5 := Aside0.mk (HL.out.below hb)
  have HB5 := Aside0.mk (below_step HB.out hb)
  have HC5 := Aside0.mk (Kd.C_below HC.out hb)
  clear hb hz
  have q1 : ((i : Int) == p) = false := beq_eq_false_iff_ne.mpr (by omega)
  have q2 : ¬ ((i : Int) = p) := by omega
  have q3 : ¬ ((i : Int) < p) := by omega
  have hx := cc2 (HL5.out.get 0 rfl)
  have h1' : ¬ ((l.length : Int) = 1) := by omega
  have h2' : ((l.length : Int) == 1) = false := beq_eq_false_iff_ne.mpr h1'
  have HK := Aside0.mk (clone_calls w5 A c l hcc HC5.out (by omega))
  have hi1 : wrap64 ((i : Int) + 1) = (i : Int) + 1 := w64 (by omega) (by omega)
  have hi2 : IntKind.i64.wrap ((i : Int) + 1) = (i : Int) + 1 := by rw [IntKind.wrap_i64]; omega
  have he : errW (none) = Value.nilIface := rfl
  simp only [he]
  clear he
  go_wp2_with fail
  refine HK.out.mono ?_
  rintro e w6 ⟨A3, c3, rfl, hR, hb⟩
  obtain ⟨g3, cur, rfl, hg3, hrow⟩ := rowp_of hR (by omega)
  have HL6 := Aside0.mk (HL5.out.below hb)
  have HB6 := Aside0.mk (below_step HB5.out hb)
  have HD := Aside0.mk (sdelete_row hrow i hi hl)
  have HZ := Aside0.mk (below_size hb)
  have HZ5 := Aside0.mk (below_size HB5.out)
  have HG0 := Aside0.mk (blk_lt (HL5.out.get 0 rfl))
  have HG1 := Aside0.mk (blk_lt (HL5.out.get 1 rfl))
  have HG3 := Aside0.mk hg3
  clear hb hR hrow hx hg3
  have hx := cc2 (HL6.out.get 0 rfl)
  go_wp2_with fail
  refine HD.out.mono ?_
  rintro e w7 ⟨rfl, ⟨cur', hrow⟩, hbd⟩
  have hb5 := hbd w5.heap.size HG3.out HZ.out
  have HB7 := Aside0.mk (HB6.out.trans (hbd w.heap.size (Nat.le_trans HZ5.out HG3.out) (Nat.le_trans HZ5.out HZ.out)))
  have X0 := Aside0.mk ((hb5.block _ HG0.out).trans (HL6.out.get 0 rfl))
  have X1 := Aside0.mk ((hb5.block _ HG1.out).trans (HL6.out.get 1 rfl))
  have HR7 := Aside0.mk (rowp_R hrow (Nat.le_trans HZ5.out HG3.out))
  obtain ⟨n1, hn1⟩ : ∃ n1, n1 = l.length - 1 := ⟨_, rfl⟩
  rw [← hn1] at HR7 ⊢
  clear hbd hb5 hrow hx hn1
  have hne : w.heap.size + 1 ≠ w.heap.size := by omega
  have hx := cc2 X0.out
  have hY := Aside0.mk (far2 (v := .slice (some ⟨g3, 0, none⟩) n1 c3) (q := .int .i64 p) X1.out hne)
  have hY1 := Aside0.mk ((Below.heap_setCell w7 ⟨w.heap.size, 0, none⟩ (.slice (some ⟨g3, 0, none⟩) n1 c3) (w.heap.size + 1) hne).trans X1.out)
  have hz := cc2 X1.out
  go_wp2_with fail
  refine bodyPost_ret (results_ct rfl _ _ (w.heap.size + 1) 70 #[.slice (some ⟨g3, 0, none⟩) n1 c3, .int .i64 p] (0, 0) _ rfl (put2 hY1.out) Try.underlying70 rfl (by kernel_rfl)) rfl ?_
  exact ⟨_, rfl, rr2 (rr1 HR7.out X0.out) hY1.out, bel2 (below_set HB7.out (Nat.le_refl _)) hs⟩
def delL (l : List S34) (p a : Int) : List S34 × Int × Option Int :=
  match fnd l p a with
  | (q, none) => if l.length = 1 then ([], 0, some 5) else (l.eraseIdx q.toNat, (if q = p then 0 else if q < p then p - 1 else p), none)
  | (_, some e) => ([], 0, some e)
theorem del_calls {w : World} {A : Option Addr} {c : Nat} {l : List S34} (hC : Kd.C k34 w A l.length l) (hcc : l.length ≤ c) (hl : l.length ≤ 1000) (p a : Int) :
    Calls Try.prog 58 #[.agg #[.slice A l.length c, .int .i64 p], .int .i64 a] w (SetR w (delL l p a).1 (delL l p a).2.1 (delL l p a).2.2) := by
  unfold delL
  rcases fnd_at l p a with ⟨e, he⟩ | ⟨i, hi, he, hg, _⟩
  · rw [he]; exact del_err hC hcc hl p a e he
  · have hp := gdb_in hg
    rw [he]
    by_cases h1 : l.length = 1
    · simp only [h1, ↓reduceIte]
      have := del_one hC hcc hl p a i he h1
      rw [h1] at this
      exact this
    · simp only [h1, ↓reduceIte, Int.toNat_natCast]
      by_cases h2 : (i : Int) = p
      · subst h2
        rw [if_pos rfl]
        exact del_eq hC hcc hl a i hi he h1
      · rw [if_neg h2]
        by_cases h3 : (i : Int) < p
        · rw [if_pos h3]; exact del_lt hC hcc hl p a i hi he h1 h3 hp.2
        · rw [if_neg h3]; exact del_gt hC hcc hl p a i hi he h1 (by omega)
end Go.Proofs.Ytblooffiggciiaa.Ps
/- PsK -/
namespace Go.Proofs.Ytblooffiggciiaa.Ps
open Go.RowKit Go.Proofs.Ytblooffiggciiaa.PPs Go.Proofs.YtblooffiggciiaaW.PrintWords Go.Proofs.YtblooffiggciiaaW.PrintLast Go.Proofs.YtblooffiggciiaaW.PrintMore Go.Proofs.Ytblooffiggciiaa.Sh
attribute [local go_sem] Go.Proofs.Ytblooffiggciiaa.Aid.isSome_setCell
set_option maxHeartbeats 2000000 in
set_option maxRecDepth 100000 in
theorem move_err {w : World} {A : Option Addr} {c : Nat} {l : List S34} (hC : Kd.C k34 w A l.length l) (p a b : Int) (er : Int) (hf : fnd l p a = (0, some er)) :
    Calls Try.prog 62 #[.agg #[.slice A l.length c, .int .i64 p], .int .i64 a, .int .i64 b] w (SetR w [] 0 (some er)) := by
  have hB := b1 (b1 (Below.refl w.heap.size w) (.cells #[.slice A l.length c, .int .i64 p] 70)) (.cells #[.slice none 0 0, .int .i64 0] 70)
  have h1 := blk_new (w.alloc (.cells #[.slice A l.length c, .int .i64 p] 70)) (.cells #[.slice none 0 0, .int .i64 0] 70)
  rw [sz1] at h1
  have hS := q3 (blk_new w (.cells #[.slice A l.length c, .int .i64 p] 70)) (.cells #[.slice none 0 0, .int .i64 0] 70)
  have HC := Aside0.mk (Kd.C_alloc (Kd.C_alloc hC (.cells #[.slice A l.length c, .int .i64 p] 70)) (.cells #[.slice none 0 0, .int .i64 0] 70))
  have HF := Aside0.mk (find_calls (c := c) HC.out p a)
  rw [hf] at HF
  have hz := ck2 hS
  have HB := Aside0.mk hB
  have H1 := Aside0.mk h1
  have HS := Aside0.mk hS
  clear hB h1 hS hC hf
  go_enter Try.func62, Try.ntmps62
  go_wp2_with fail
  refine HF.out.mono ?_
  rintro e w5 ⟨rfl, hb⟩
  have BR5 := Aside0.mk (blk_below H1.out hb)
  have HB5 := Aside0.mk (below_step HB.out hb)
  clear hb hz
  have hz := cc2 BR5.out
  have he : errW (some er) = Value.iface 42 (.int .i64 er) := rfl
  simp only [he]
  clear he
  go_wp2_with fail
  have hs : w.heap.size ≤ w.heap.size + 1 := by omega
  refine bodyPost_ret (results_ct rfl _ _ (w.heap.size + 1) 70 #[.slice none 0 0, .int .i64 0] (0, 0) _ rfl (put2 BR5.out) Try.underlying70 rfl (by kernel_rfl)) rfl ?_
  exact ⟨_, rfl, Kd.R_nil _ _ _ _ _, bel2 HB5.out hs⟩
set_option maxHeartbeats 2000000 in
set_option maxRecDepth 100000 in
theorem move_bad {w : World} {A : Option Addr} {c : Nat} {l : List S34} (hC : Kd.C k34 w A l.length l) (p a b : Int) (i : Nat) (hi : i < l.length) (hf : fnd l p a = ((i : Int), none)) (HG : Aside0 (¬ (G (l.getD i z34) ∧ addrP b))) :
    Calls Try.prog 62 #[.agg #[.slice A l.length c, .int .i64 p], .int .i64 a, .int .i64 b] w (SetR w [] 0 (some 1)) := by
  have hB := b1 (b1 (Below.refl w.heap.size w) (.cells #[.slice A l.length c, .int .i64 p] 70)) (.cells #[.slice none 0 0, .int .i64 0] 70)
  have h1 := blk_new (w.alloc (.cells #[.slice A l.length c, .int .i64 p] 70)) (.cells #[.slice none 0 0, .int .i64 0] 70)
  rw [sz1] at h1
  have hS := q3 (blk_new w (.cells #[.slice A l.length c, .int .i64 p] 70)) (.cells #[.slice none 0 0, .int .i64 0] 70)
  have HC := Aside0.mk (Kd.C_alloc (Kd.C_alloc hC (.cells #[.slice A l.length c, .int .i64 p] 70)) (.cells #[.slice none 0 0, .int .i64 0] 70))
  have HF := Aside0.mk (find_calls (c := c) HC.out p a)
  rw [hf] at HF
  have hz := ck2 hS
  have HB := Aside0.mk hB
  have H1 := Aside0.mk h1
  have HS := Aside0.mk hS
  clear hB h1 hS hC hf
  go_enter Try.func62, Try.ntmps62
  go_wp2_with fail
  refine HF.out.mono ?_
  rintro e w5 ⟨rfl, hb⟩
  have BR5 := Aside0.mk (blk_below H1.out hb)
  have BS5 := Aside0.mk (blk_below HS.out hb)
  have HB5 := Aside0.mk (below_step HB.out hb)
  have HC5 := Aside0.mk (Kd.C_below HC.out hb)
  obtain ⟨ad, rfl, h0, h1, h2, h3, h4, h5, h6, h7, h8, h9, h10⟩ := at_T34 HC5.out (i : Int) (by omega) (by omega)
  obtain ⟨y, hy⟩ : ∃ y, y = rd_T34 l (i : Int) := ⟨_, rfl⟩
  rw [← hy] at h0 h1 h2 h3 h4 h5 h6 h7 h8 h9 h10
  have hy2 : l.getD i z34 = y := by rw [hy]; unfold rd_T34; rw [Int.toNat_natCast]
  rw [hy2] at HG
  have HY := Aside0.mk hy2
  rw [Int.toNat_natCast] at h0 h1 h2 h3 h4 h5 h6 h7 h8 h9 h10
  have hji : (i : Int) < (l.length : Int) := by omega
  clear hb hz hy hy2
  have hz := ck2 BS5.out
  have he : errW none = Value.nilIface := rfl
  simp only [he]
  clear he
  go_wp2_with fail
  refine (to_bad y b HG.out _).mono ?_
  rintro e w6 ⟨rfl, hb⟩
  have BR6 := Aside0.mk (q3 (blk_below BR5.out hb) (.cells (cs34 z34).toArray 34))
  have HB6 := Aside0.mk (b1 (below_step HB5.out hb) (.cells (cs34 z34).toArray 34))
  clear hb hz h0 h1 h2 h3 h4 h5 h6 h7 h8 h9 h10
  have hz := cc2 BR6.out
  unfold cs34 z34 at hz
  unfold cs34 z34
  have he : errW (some 1) = Value.iface 42 (.int .i64 1) := rfl
  simp only [he]
  clear he
  go_wp2_with fail
  have hs : w.heap.size ≤ w.heap.size + 1 := by omega
  refine bodyPost_ret (results_ct rfl _ _ (w.heap.size + 1) 70 #[.slice none 0 0, .int .i64 0] (0, 0) _ rfl (put2 BR6.out) Try.underlying70 rfl (by kernel_rfl)) rfl ?_
  exact ⟨_, rfl, Kd.R_nil _ _ _ _ _, bel2 HB6.out hs⟩
set_option maxHeartbeats 2000000 in
set_option maxRecDepth 100000 in
theorem move_dup {w : World} {A : Option Addr} {c : Nat} {l : List S34} (hC : Kd.C k34 w A l.length l) (p a b : Int) (i : Nat) (hi : i < l.length) (hf : fnd l p a = ((i : Int), none)) (HG : Aside0 (G (l.getD i z34) ∧ addrP b)) (q : Int) (hk : plc l b = q) (hq : 0 ≤ q) (hn : q ≠ i) :
    Calls Try.prog 62 #[.agg #[.slice A l.length c, .int .i64 p], .int .i64 a, .int .i64 b] w (SetR w [] 0 (some 12)) := by
  have hB := b1 (b1 (Below.refl w.heap.size w) (.cells #[.slice A l.length c, .int .i64 p] 70)) (.cells #[.slice none 0 0, .int .i64 0] 70)
  have h1 := blk_new (w.alloc (.cells #[.slice A l.length c, .int .i64 p] 70)) (.cells #[.slice none 0 0, .int .i64 0] 70)
  rw [sz1] at h1
  have hS := q3 (blk_new w (.cells #[.slice A l.length c, .int .i64 p] 70)) (.cells #[.slice none 0 0, .int .i64 0] 70)
  have HC := Aside0.mk (Kd.C_alloc (Kd.C_alloc hC (.cells #[.slice A l.length c, .int .i64 p] 70)) (.cells #[.slice none 0 0, .int .i64 0] 70))
  have HF := Aside0.mk (find_calls (c := c) HC.out p a)
  rw [hf] at HF
  have hz := ck2 hS
  have HB := Aside0.mk hB
  have H1 := Aside0.mk h1
  have HS := Aside0.mk hS
  clear hB h1 hS hC hf
  go_enter Try.func62, Try.ntmps62
  go_wp2_with fail
  refine HF.out.mono ?_
  rintro e w5 ⟨rfl, hb⟩
  have BR5 := Aside0.mk (blk_below H1.out hb)
  have BS5 := Aside0.mk (blk_below HS.out hb)
  have HB5 := Aside0.mk (below_step HB.out hb)
  have HC5 := Aside0.mk (Kd.C_below HC.out hb)
  obtain ⟨ad, rfl, h0, h1, h2, h3, h4, h5, h6, h7, h8, h9, h10⟩ := at_T34 HC5.out (i : Int) (by omega) (by omega)
  obtain ⟨y, hy⟩ : ∃ y, y = rd_T34 l (i : Int) := ⟨_, rfl⟩
  rw [← hy] at h0 h1 h2 h3 h4 h5 h6 h7 h8 h9 h10
  have hy2 : l.getD i z34 = y := by rw [hy]; unfold rd_T34; rw [Int.toNat_natCast]
  rw [hy2] at HG
  have HY := Aside0.mk hy2
  rw [Int.toNat_natCast] at h0 h1 h2 h3 h4 h5 h6 h7 h8 h9 h10
  have hji : (i : Int) < (l.length : Int) := by omega
  clear hb hz hy hy2
  have hz := ck2 BS5.out
  have he : errW none = Value.nilIface := rfl
  simp only [he]
  clear he
  go_wp2_with fail
  refine (to_calls y b HG.out.1 HG.out.2 _).mono ?_
  rintro e w6 ⟨rfl, hb⟩
  have BR6 := Aside0.mk (q3 (blk_below BR5.out hb) (.cells (cs34 (toS y b)).toArray 34))
  have BS6 := Aside0.mk (q3 (blk_below BS5.out hb) (.cells (cs34 (toS y b)).toArray 34))
  have BP6 := Aside0.mk (blk_new w6 (.cells (cs34 (toS y b)).toArray 34))
  have HB6 := Aside0.mk (b1 (below_step HB5.out hb) (.cells (cs34 (toS y b)).toArray 34))
  have HC6 := Aside0.mk (Kd.C_alloc (Kd.C_below HC5.out hb) (.cells (cs34 (toS y b)).toArray 34))
  have HPl := Aside0.mk (place_calls (c := c) HC6.out p b)
  rw [hk] at HPl
  clear hb hz h0 h1 h2 h3 h4 h5 h6 h7 h8 h9 h10 hk
  have hz := ck2 BS6.out
  unfold cs34 toS at hz
  unfold cs34 toS
  have he : errW none = Value.nilIface := rfl
  simp only [he]
  clear he
  go_wp2_with fail
  refine HPl.out.mono ?_
  rintro e w7 ⟨rfl, hb⟩
  have BR7 := Aside0.mk (blk_below BR6.out hb)
  have BS7 := Aside0.mk (blk_below BS6.out hb)
  have BP7 := Aside0.mk (blk_below BP6.out hb)
  have HB7 := Aside0.mk (below_step HB6.out hb)
  have HC7 := Aside0.mk (Kd.C_below HC6.out hb)
  clear hb hz
  have hz := cc2 BR7.out
  go_wp2_with fail
  have hs : w.heap.size ≤ w.heap.size + 1 := by omega
  refine bodyPost_ret (results_ct rfl _ _ (w.heap.size + 1) 70 #[.slice none 0 0, .int .i64 0] (0, 0) _ rfl (put2 BR7.out) Try.underlying70 rfl (by kernel_rfl)) rfl ?_
  exact ⟨_, rfl, Kd.R_nil _ _ _ _ _, bel2 HB7.out hs⟩
set_option maxHeartbeats 2000000 in
set_option maxRecDepth 100000 in
theorem move_ok {w : World} {A : Option Addr} {c : Nat} {l : List S34} (hC : Kd.C k34 w A l.length l) (p a b : Int) (i : Nat) (hi : i < l.length) (hf : fnd l p a = ((i : Int), none)) (hcc : l.length ≤ c) (hl : l.length ≤ 1048576) (HG : Aside0 (G (l.getD i z34) ∧ addrP b)) (q : Int) (hk : plc l b = q) (hn : q < 0 ∨ q = i) :
    Calls Try.prog 62 #[.agg #[.slice A l.length c, .int .i64 p], .int .i64 a, .int .i64 b] w (SetR w (l.set i (toS (l.getD i z34) b)) p none) := by
  have hB := b1 (b1 (Below.refl w.heap.size w) (.cells #[.slice A l.length c, .int .i64 p] 70)) (.cells #[.slice none 0 0, .int .i64 0] 70)
  have h1 := blk_new (w.alloc (.cells #[.slice A l.length c, .int .i64 p] 70)) (.cells #[.slice none 0 0, .int .i64 0] 70)
  rw [sz1] at h1
  have hS := q3 (blk_new w (.cells #[.slice A l.length c, .int .i64 p] 70)) (.cells #[.slice none 0 0, .int .i64 0] 70)
  have HC := Aside0.mk (Kd.C_alloc (Kd.C_alloc hC (.cells #[.slice A l.length c, .int .i64 p] 70)) (.cells #[.slice none 0 0, .int .i64 0] 70))
  have HF := Aside0.mk (find_calls (c := c) HC.out p a)
  rw [hf] at HF
  have hz := ck2 hS
  have HB := Aside0.mk hB
  have H1 := Aside0.mk h1
  have HS := Aside0.mk hS
  clear hB h1 hS hC hf
  go_enter Try.func62, Try.ntmps62
  go_wp2_with fail
  refine HF.out.mono ?_
  rintro e w5 ⟨rfl, hb⟩
  have BR5 := Aside0.mk (blk_below H1.out hb)
  have BS5 := Aside0.mk (blk_below HS.out hb)
  have HB5 := Aside0.mk (below_step HB.out hb)
  have HC5 := Aside0.mk (Kd.C_below HC.out hb)
  obtain ⟨ad, rfl, h0, h1, h2, h3, h4, h5, h6, h7, h8, h9, h10⟩ := at_T34 HC5.out (i : Int) (by omega) (by omega)
  obtain ⟨y, hy⟩ : ∃ y, y = rd_T34 l (i : Int) := ⟨_, rfl⟩
  rw [← hy] at h0 h1 h2 h3 h4 h5 h6 h7 h8 h9 h10
  have hy2 : l.getD i z34 = y := by rw [hy]; unfold rd_T34; rw [Int.toNat_natCast]
  rw [hy2] at HG
  have HY := Aside0.mk hy2
  rw [Int.toNat_natCast] at h0 h1 h2 h3 h4 h5 h6 h7 h8 h9 h10
  have hji : (i : Int) < (l.length : Int) := by omega
  clear hb hz hy hy2
  have hz := ck2 BS5.out
  have he : errW none = Value.nilIface := rfl
  simp only [he]
  clear he
  go_wp2_with fail
  refine (to_calls y b HG.out.1 HG.out.2 _).mono ?_
  rintro e w6 ⟨rfl, hb⟩
  have BR6 := Aside0.mk (q3 (blk_below BR5.out hb) (.cells (cs34 (toS y b)).toArray 34))
  have BS6 := Aside0.mk (q3 (blk_below BS5.out hb) (.cells (cs34 (toS y b)).toArray 34))
  have BP6 := Aside0.mk (blk_new w6 (.cells (cs34 (toS y b)).toArray 34))
  have HB6 := Aside0.mk (b1 (below_step HB5.out hb) (.cells (cs34 (toS y b)).toArray 34))
  have HC6 := Aside0.mk (Kd.C_alloc (Kd.C_below HC5.out hb) (.cells (cs34 (toS y b)).toArray 34))
  have HPl := Aside0.mk (place_calls (c := c) HC6.out p b)
  rw [hk] at HPl
  clear hb hz h0 h1 h2 h3 h4 h5 h6 h7 h8 h9 h10 hk
  have hz := ck2 BS6.out
  unfold cs34 toS at hz
  unfold cs34 toS
  have he : errW none = Value.nilIface := rfl
  simp only [he]
  clear he
  go_wp2_with fail
  refine HPl.out.mono ?_
  rintro e w7 ⟨rfl, hb⟩
  have BR7 := Aside0.mk (blk_below BR6.out hb)
  have BS7 := Aside0.mk (blk_below BS6.out hb)
  have BP7 := Aside0.mk (blk_below BP6.out hb)
  have HB7 := Aside0.mk (below_step HB6.out hb)
  have HC7 := Aside0.mk (Kd.C_below HC6.out hb)
  clear hb hz
  have HW := Aside0.mk (with_calls HC7.out hcc hl p i hi (toS y b))
  have hz := ck2 BS7.out
  have hy := ck11 BP7.out
  rcases hn with hn | rfl
  · go_wp2_with fail
    refine HW.out.mono ?_
    rintro e w8 ⟨v, rfl, hR, hb⟩
    obtain ⟨A2, c2, rfl⟩ := Kd.R_slice hR
    rw [List.length_set] at hR
    have BR8 := Aside0.mk (blk_below BR7.out hb)
    have HB8 := Aside0.mk (below_step HB7.out hb)
    have HR := Aside0.mk (Kd.R_lower hR (below_size HB7.out))
    clear hb hz hy hR
    have hz := cc2 BR8.out
    go_wp2_with fail
    have hs : w.heap.size ≤ w.heap.size + 1 := by omega
    refine bodyPost_ret (results_ct rfl _ _ (w.heap.size + 1) 70 #[.slice A2 l.length c2, .int .i64 p] (0, 0) _ rfl (put2 BR8.out) Try.underlying70 rfl (by kernel_rfl)) rfl ?_
    rw [HY.out]
    exact ⟨_, rfl, rr2 HR.out BR8.out, bel2 HB8.out hs⟩
  · have hi0 : (0 : Int) ≤ (i : Int) := by omega
    go_wp2_with fail
    refine HW.out.mono ?_
    rintro e w8 ⟨v, rfl, hR, hb⟩
    obtain ⟨A2, c2, rfl⟩ := Kd.R_slice hR
    rw [List.length_set] at hR
    have BR8 := Aside0.mk (blk_below BR7.out hb)
    have HB8 := Aside0.mk (below_step HB7.out hb)
    have HR := Aside0.mk (Kd.R_lower hR (below_size HB7.out))
    clear hb hz hy hR
    have hz := cc2 BR8.out
    go_wp2_with fail
    have hs : w.heap.size ≤ w.heap.size + 1 := by omega
    refine bodyPost_ret (results_ct rfl _ _ (w.heap.size + 1) 70 #[.slice A2 l.length c2, .int .i64 p] (0, 0) _ rfl (put2 BR8.out) Try.underlying70 rfl (by kernel_rfl)) rfl ?_
    rw [HY.out]
    exact ⟨_, rfl, rr2 HR.out BR8.out, bel2 HB8.out hs⟩
def moveL (l : List S34) (p a b : Int) : List S34 × Int × Option Int :=
  match fnd l p a with
  | (_, some e) => ([], 0, some e)
  | (q, none) => if G (l.getD q.toNat z34) ∧ addrP b then (if 0 ≤ plc l b ∧ plc l b ≠ q then ([], 0, some 12) else (l.set q.toNat (toS (l.getD q.toNat z34) b), p, none)) else ([], 0, some 1)
theorem move_calls {w : World} {A : Option Addr} {c : Nat} {l : List S34} (hC : Kd.C k34 w A l.length l) (hcc : l.length ≤ c) (hl : l.length ≤ 1048576) (p a b : Int) :
    Calls Try.prog 62 #[.agg #[.slice A l.length c, .int .i64 p], .int .i64 a, .int .i64 b] w (SetR w (moveL l p a b).1 (moveL l p a b).2.1 (moveL l p a b).2.2) := by
  unfold moveL
  rcases fnd_at l p a with ⟨e, he⟩ | ⟨i, hi, he, _⟩
  · rw [he]; exact move_err hC p a b e he
  · rw [he]
    dsimp only
    rw [Int.toNat_natCast]
    by_cases hg : G (l.getD i z34) ∧ addrP b
    · rw [if_pos hg]
      by_cases hd : 0 ≤ plc l b ∧ plc l b ≠ i
      · rw [if_pos hd]; exact move_dup hC p a b i hi he ⟨hg⟩ _ rfl hd.1 hd.2
      · rw [if_neg hd]; exact move_ok hC p a b i hi he hcc hl ⟨hg⟩ _ rfl (by omega)
    · rw [if_neg hg]; exact move_bad hC p a b i hi he ⟨hg⟩
end Go.Proofs.Ytblooffiggciiaa.Ps
/- PPsx71 -/
namespace Go.Proofs.Ytblooffiggciiaa.PPs
open Go.RowKit Go.Proofs.YtblooffiggciiaaW.PrintWords Go.Proofs.YtblooffiggciiaaW.PrintLast Go.Proofs.YtblooffiggciiaaW.PrintMore
attribute [local go_sem] max2_int min2_int max_two min_two max_three min_three max_four min_four   -- for this text's walks alone
attribute [local go_sem] Go.Proofs.Ytblooffiggciiaa.Aid.isSome_setCell
def weftlineref14_Add.j0 : Nat → Int → Bool → List (S29) → Int → Option ((List (S29)) × Int × Int)
  | 0, _, _, _, _ => none
  | k + 1, x1, x13, x431000, x431001 => if x13 = true then (some (([] : List (S29)), 0, 1)) else ((weftlineref14_find.f k x431000 x431001 x1).bind fun t434 => (if t434 ≥ 0 then (some (([] : List (S29)), 0, 12)) else (if (x431000.length : Int) = 4 then (some (([] : List (S29)), 0, 3)) else ((some (([] : List (S29)) : List (S29))).bind fun y435 => (if y435.length + x431000.length < 1599289640401 then ((some (y435 ++ x431000 : List (S29))).bind fun y438 => ((weftlineref13_New.f x1).bind fun bt441 => (if y438.length < 1599289640401 then (some ((y438 ++ [(⟨(⟨bt441.1, bt441.2.1, bt441.2.2.1, bt441.2.2.2.1⟩ : S23), (⟨bt441.2.2.2.2.1, bt441.2.2.2.2.2.1, bt441.2.2.2.2.2.2.1⟩ : S25), bt441.2.2.2.2.2.2.2.1, bt441.2.2.2.2.2.2.2.2.1, bt441.2.2.2.2.2.2.2.2.2.1, bt441.2.2.2.2.2.2.2.2.2.2⟩ : S29)]), x431001, 0)) else (none)))) else (none))))))
def weftlineref14_Add.f (k : Nat) (l0_0 : List (S29)) (a0_1 : Int) (a1 : Int) : Option ((List (S29)) × Int × Int) := (weftlineref14_Good.f k l0_0 a0_1).bind fun t432 => (if t432 = true then ((weftlineref13_Addr.f a1).bind fun t433 => (weftlineref14_Add.j0 k a1 (!t433) l0_0 a0_1)) else (weftlineref14_Add.j0 k a1 true l0_0 a0_1))
set_option maxHeartbeats 8000000 in
set_option maxRecDepth 100000 in
theorem weftlineref14_Add.calls (k : Nat) (A0_0 : Option Addr) (c0_0 : Nat) (l0_0 : List (S29)) (a0_1 : Int) (a1 : Int) (r1 : List (S29)) (r2 : Int) (r3 : Int) (w : World) (hr0_0 : Kd.C k29 w A0_0 l0_0.length l0_0) (hc0_0 : l0_0.length ≤ c0_0) (h : weftlineref14_Add.f k l0_0 a0_1 a1 = some (r1, r2, r3)) :
    Calls Try.prog 57 #[.agg #[.slice A0_0 l0_0.length c0_0, .int .i64 a0_1], .int .i64 a1] w fun e w' => ∃ v0_ : Value, e = .returned (.tuple #[.agg #[v0_, .int .i64 r2], .int .i64 r3]) ∧ Kd.R k29 29 w' w.heap.size (fun _ => True) v0_ r1 ∧ Below w.heap.size w w' := by
  have hu66 := Try.underlying66
  have HR0_0 := Aside0.mk hr0_0
  have HC0_0 := Aside0.mk hc0_0
  clear hr0_0 hc0_0
  have HB := Aside0.mk (Below.refl w.heap.size w)
  have H : ((weftlineref14_Good.f k l0_0 a0_1).bind fun t432 => (if t432 = true then ((weftlineref13_Addr.f a1).bind fun t433 => (weftlineref14_Add.j0 k a1 (!t433) l0_0 a0_1)) else (weftlineref14_Add.j0 k a1 true l0_0 a0_1))) = some (r1, r2, r3) := h
  clear h
  have HC3 := Aside0.mk H
  clear H
  go_enter Try.func57, Try.ntmps57
  go_upto_region 1 with (first | ((with_reducible refine gate_dst (N := 2) rfl ?_); refine box_event ?hg (N := 2) ?hd (cs := #[.slice A0_0 l0_0.length c0_0, .int .i64 a0_1]) (t := 66) ?hr ?_; (case hd => rfl); (case hg => rfl); (case hr => first | (go_simp; done) | (go_simp; rfl)); intro gb430 hg w4 hbox hb; have n0_ := Aside0.mk (below_step (by repeat (first | (with_reducible first | exact HB.out | apply below_alloc | apply pw_below_drewN | apply below_drew1) | exact HB.out)) hb); have n1_ := Aside0.mk (hbox); have n2_ := Aside0.mk ((by rw [hg]; exact (below_size (by repeat (first | (with_reducible first | exact HB.out | apply below_alloc | apply pw_below_drewN | apply below_drew1) | exact HB.out))) : w.heap.size ≤ gb430)); have n3_ := Aside0.mk ((by rw [hg]; exact (below_size (by repeat (first | (with_reducible first | exact HB.out | apply below_alloc | apply pw_below_drewN | apply below_drew1) | exact HB.out))) : w.heap.size ≤ gb430)); clear HB; have HB := n0_; have BK430 := n1_; have GW430 := n2_; have GE430 := n3_; clear n0_ n1_ n2_ n3_; clear hb hbox hg) | ((with_reducible refine gate_dst (N := 4) rfl ?_); refine box_event ?hg (N := 4) ?hd (cs := #[.slice none 0 0, .int .i64 0]) (t := 66) ?hr ?_; (case hd => rfl); (case hg => rfl); (case hr => first | (go_simp; done) | (go_simp; rfl)); intro gb431 hg w5 hbox hb; have n0_ := Aside0.mk (blk_below (g := gb430) (o := .cells #[.slice A0_0 l0_0.length c0_0, .int .i64 a0_1] 66 (0, 0)) (by (with_reducible repeat (first | refine blk_drewN ?_ _ | refine blk_drew ?_ | refine blk_alloc ?_ _)); exact BK430.out) hb); have n1_ := Aside0.mk (below_step (by repeat (first | (with_reducible first | exact HB.out | apply below_alloc | apply pw_below_drewN | apply below_drew1 | refine below_set ?_ GE430.out) | exact HB.out)) hb); have n2_ := Aside0.mk (hbox); have n3_ := Aside0.mk ((by rw [hg]; exact (below_size (by repeat (first | (with_reducible first | exact HB.out | apply below_alloc | apply pw_below_drewN | apply below_drew1 | refine below_set ?_ GE430.out) | exact HB.out))) : w.heap.size ≤ gb431)); have n4_ := Aside0.mk ((by rw [hg]; exact (below_size (by repeat (first | (with_reducible first | exact HB.out | apply below_alloc | apply pw_below_drewN | apply below_drew1 | refine below_set ?_ GE430.out) | exact HB.out))) : w.heap.size ≤ gb431)); have n5_ := Aside0.mk ((by rw [hg]; exact Nat.ne_of_lt (blk_lt (g := gb430) (o := .cells #[.slice A0_0 l0_0.length c0_0, .int .i64 a0_1] 66 (0, 0)) (by (with_reducible repeat (first | refine blk_drewN ?_ _ | refine blk_drew ?_ | refine blk_alloc ?_ _)); exact BK430.out)) : gb430 ≠ gb431)); have n6_ := Aside0.mk ((by rw [hg]; exact Nat.ne_of_gt (blk_lt (g := gb430) (o := .cells #[.slice A0_0 l0_0.length c0_0, .int .i64 a0_1] 66 (0, 0)) (by (with_reducible repeat (first | refine blk_drewN ?_ _ | refine blk_drew ?_ | refine blk_alloc ?_ _)); exact BK430.out)) : gb431 ≠ gb430)); clear BK430; clear HB; have BK430 := n0_; have HB := n1_; have BK431 := n2_; have GW431 := n3_; have GE431 := n4_; have NB430_431 := n5_; have NB431_430 := n6_; clear n0_ n1_ n2_ n3_ n4_ n5_ n6_; clear hb hbox hg))
  (try simp only [Act.put, List.setIfInBounds_toArray, List.set_cons_zero, List.set_cons_succ])
  go_cut [13] (fun v13 wc => ∃ (kq : Nat) (x13_2 : Bool), v13 = .bool x13_2 ∧ Aside0 (weftlineref14_Add.j0 kq a1 x13_2 l0_0 a0_1 = some (r1, r2, r3)) ∧ Aside0 (kq ≤ k) ∧ Aside0 (wc.heap[gb430]? = some (.cells #[(.slice A0_0 l0_0.length c0_0), .int .i64 a0_1] 66 (0, 0))) ∧ Aside0 (wc.heap[gb431]? = some (.cells #[(.slice none 0 0), .int .i64 0] 66 (0, 0))) ∧ Aside0 (Below w.heap.size w wc))
  case first =>
    have H := HC3.out
    clear HC3
    replace H := Option.bind_eq_some_iff.mp H
    obtain ⟨t432, A60, H⟩ := H
    replace H : (if t432 = true then ((weftlineref13_Addr.f a1).bind fun t433 => (weftlineref14_Add.j0 k a1 (!t433) l0_0 a0_1)) else (weftlineref14_Add.j0 k a1 true l0_0 a0_1)) = some (r1, r2, r3) := H
    have A6 := Aside0.mk A60
    clear A60
    by_cases c7 : t432 = true
    · subst c7
      have H1 : ((weftlineref13_Addr.f a1).bind fun t433 => (weftlineref14_Add.j0 k a1 (!t433) l0_0 a0_1)) = some (r1, r2, r3) := by rw [if_pos rfl] at H; exact H
      clear H
      have H := H1
      clear H1
      replace H := Option.bind_eq_some_iff.mp H
      obtain ⟨t433, A80, H⟩ := H
      replace H : (weftlineref14_Add.j0 k a1 (!t433) l0_0 a0_1) = some (r1, r2, r3) := H
      have A8 := Aside0.mk A80
      clear A80
      have H' := Aside0.mk H
      clear H
      have hnb9 := NB430_431.out
      have hnc9 := NB431_430.out
      have hcz10_0 : w5.cell? ⟨gb430, 0, none⟩ = some (.slice A0_0 l0_0.length c0_0) := (blk_cell BK430.out 0).trans rfl
      have hcz10_1 : w5.cell? ⟨gb430, 1, none⟩ = some (.int .i64 a0_1) := (blk_cell BK430.out 1).trans rfl
      have hfz10_0 := blk_frozen BK430.out 0
      have hfz10_1 := blk_frozen BK430.out 1
      go_wp2_with (first | ((with_reducible refine gate_callee (f := 53) rfl ?_); refine goesL_ (some 7) rfl rfl Try.func53 (by kernel_rfl) rfl #[.agg #[.slice A0_0 l0_0.length c0_0, .int .i64 a0_1]] rfl (by (try simp only [List.map_toArray, List.map_cons, List.map_nil]); first | done | rfl | (simp only [List.length_drop, List.length_take]; rfl)) ?_; (with_reducible refine (weftlineref14_Good.calls k _ _ l0_0 a0_1 true _ ?side1 ?side2 A6.out).mono ?_); (case side1 => repeat (first | exact (Kd.C_below HR0_0.out HB.out) | (with_reducible refine Kd.C_alloc ?_ _) | (with_reducible refine Kd.C_drewN ?_ _) | (with_reducible refine Kd.C_drew ?_))); (case side2 => exact HC0_0.out); rintro e w11 ⟨rfl, hb⟩; refine ⟨_, rfl, ?_⟩; have n0_ := Aside0.mk (blk_below (g := gb430) (o := .cells #[.slice A0_0 l0_0.length c0_0, .int .i64 a0_1] 66 (0, 0)) (by (with_reducible repeat (first | refine blk_drewN ?_ _ | refine blk_drew ?_ | refine blk_alloc ?_ _)); exact BK430.out) hb); have n1_ := Aside0.mk (blk_below (g := gb431) (o := .cells #[.slice none 0 0, .int .i64 0] 66 (0, 0)) (by (with_reducible repeat (first | refine blk_drewN ?_ _ | refine blk_drew ?_ | refine blk_alloc ?_ _)); exact BK431.out) hb); have n2_ := Aside0.mk (below_step (by repeat (first | (with_reducible first | exact HB.out | apply below_alloc | apply pw_below_drewN | apply below_drew1 | refine below_set ?_ GE430.out | refine below_set ?_ GE431.out) | exact HB.out)) hb); clear BK430; clear BK431; clear HB; have BK430 := n0_; have BK431 := n1_; have HB := n2_; clear n0_ n1_ n2_; (try clear hb); (try clear hb2); (try clear hk); (try clear hi)) | (go_at_call 14; (with_reducible refine (weftlineref13_Addr.calls a1 t433 _ A8.out).mono ?_); rintro e w' ⟨rfl, ⟨nd, rfl⟩⟩))
      go_meet
      case rel => exact ⟨_, (!t433), (by first | rfl | (simp; done) | (simp [*]; done)), H', ⟨by first | omega | exact Nat.le_refl _⟩, ⟨by (with_reducible repeat (first | refine blk_drewN ?_ _ | refine blk_drew ?_ | refine blk_alloc ?_ _)); exact BK430.out⟩, ⟨by (with_reducible repeat (first | refine blk_drewN ?_ _ | refine blk_drew ?_ | refine blk_alloc ?_ _)); exact BK431.out⟩, ⟨by repeat (first | (with_reducible first | exact HB.out | apply below_alloc | apply pw_below_drewN | apply below_drew1 | refine below_set ?_ GE430.out | refine below_set ?_ GE431.out) | exact HB.out)⟩⟩
    · replace c7 := Bool.eq_false_iff.mpr c7
      subst c7
      have H1 : (weftlineref14_Add.j0 k a1 true l0_0 a0_1) = some (r1, r2, r3) := by rw [if_neg (show ¬ (false = true) by decide)] at H; exact H
      clear H
      have H := H1
      clear H1
      have H' := Aside0.mk H
      clear H
      have hnb12 := NB430_431.out
      have hnc12 := NB431_430.out
      have hcz13_0 : w5.cell? ⟨gb430, 0, none⟩ = some (.slice A0_0 l0_0.length c0_0) := (blk_cell BK430.out 0).trans rfl
      have hcz13_1 : w5.cell? ⟨gb430, 1, none⟩ = some (.int .i64 a0_1) := (blk_cell BK430.out 1).trans rfl
      have hfz13_0 := blk_frozen BK430.out 0
      have hfz13_1 := blk_frozen BK430.out 1
      go_wp2_with (first | ((with_reducible refine gate_callee (f := 53) rfl ?_); refine goesL_ (some 7) rfl rfl Try.func53 (by kernel_rfl) rfl #[.agg #[.slice A0_0 l0_0.length c0_0, .int .i64 a0_1]] rfl (by (try simp only [List.map_toArray, List.map_cons, List.map_nil]); first | done | rfl | (simp only [List.length_drop, List.length_take]; rfl)) ?_; (with_reducible refine (weftlineref14_Good.calls k _ _ l0_0 a0_1 false _ ?side1 ?side2 A6.out).mono ?_); (case side1 => repeat (first | exact (Kd.C_below HR0_0.out HB.out) | (with_reducible refine Kd.C_alloc ?_ _) | (with_reducible refine Kd.C_drewN ?_ _) | (with_reducible refine Kd.C_drew ?_))); (case side2 => exact HC0_0.out); rintro e w14 ⟨rfl, hb⟩; refine ⟨_, rfl, ?_⟩; have n0_ := Aside0.mk (blk_below (g := gb430) (o := .cells #[.slice A0_0 l0_0.length c0_0, .int .i64 a0_1] 66 (0, 0)) (by (with_reducible repeat (first | refine blk_drewN ?_ _ | refine blk_drew ?_ | refine blk_alloc ?_ _)); exact BK430.out) hb); have n1_ := Aside0.mk (blk_below (g := gb431) (o := .cells #[.slice none 0 0, .int .i64 0] 66 (0, 0)) (by (with_reducible repeat (first | refine blk_drewN ?_ _ | refine blk_drew ?_ | refine blk_alloc ?_ _)); exact BK431.out) hb); have n2_ := Aside0.mk (below_step (by repeat (first | (with_reducible first | exact HB.out | apply below_alloc | apply pw_below_drewN | apply below_drew1 | refine below_set ?_ GE430.out | refine below_set ?_ GE431.out) | exact HB.out)) hb); clear BK430; clear BK431; clear HB; have BK430 := n0_; have BK431 := n1_; have HB := n2_; clear n0_ n1_ n2_; (try clear hb); (try clear hb2); (try clear hk); (try clear hi)))
      go_meet
      case rel => exact ⟨_, (true), (by first | rfl | (simp; done) | (simp [*]; done)), H', ⟨by first | omega | exact Nat.le_refl _⟩, ⟨by (with_reducible repeat (first | refine blk_drewN ?_ _ | refine blk_drew ?_ | refine blk_alloc ?_ _)); exact BK430.out⟩, ⟨by (with_reducible repeat (first | refine blk_drewN ?_ _ | refine blk_drew ?_ | refine blk_alloc ?_ _)); exact BK431.out⟩, ⟨by repeat (first | (with_reducible first | exact HB.out | apply below_alloc | apply pw_below_drewN | apply below_drew1 | refine below_set ?_ GE430.out | refine below_set ?_ GE431.out) | exact HB.out)⟩⟩
  case rest =>
    clear HC3
    try clear c1
    try clear p2
    try clear c5
    try clear c7
    try clear c9
    try clear c12
    try clear hcz10_0
    try clear hcz10_1
    try clear hcz13_0
    try clear hcz13_1
    try clear hfz10_0
    try clear hfz10_1
    try clear hfz13_0
    try clear hfz13_1
    obtain ⟨kq, x13_2, rfl, HA, HJ2, BK430, BK431, HB⟩ := hcut
    cases kq with
    | zero => exact absurd HA.out (by simp [weftlineref14_Add.j0])
    | succ kj2 =>
      have H := HA.out
      clear HA
      simp only [weftlineref14_Add.j0] at H
      by_cases c15 : x13_2 = true
      · subst c15
        have H1 : (some (([] : List (S29)), 0, 1)) = some (r1, r2, r3) := by rw [if_pos rfl] at H; exact H
        clear H
        have H := H1
        clear H1
        simp only [Option.some.injEq, Prod.mk.injEq] at H
        obtain ⟨rfl, rfl, rfl⟩ := H
        have hnb16 := NB431_430.out
        have hnc16 := NB430_431.out
        have hcz17_0 : wc.cell? ⟨gb431, 0, none⟩ = some (.slice none 0 0) := (blk_cell BK431.out 0).trans rfl
        have hcz17_1 : wc.cell? ⟨gb431, 1, none⟩ = some (.int .i64 0) := (blk_cell BK431.out 1).trans rfl
        have hfz17_0 := blk_frozen BK431.out 0
        have hfz17_1 := blk_frozen BK431.out 1
        go_wp2
        refine bodyPost_ret (results_ct rfl _ _ gb431 66 #[.slice none 0 0, .int .i64 0] (0, 0) _ rfl (by (with_reducible repeat (first | refine blk_drewN ?_ _ | refine blk_drew ?_ | refine blk_alloc ?_ _)); refine blk_put (cs := #[.slice none 0 0, .int .i64 0]) ?_ 1 _ rfl; (with_reducible repeat (first | refine blk_drewN ?_ _ | refine blk_drew ?_ | refine blk_alloc ?_ _)); refine blk_put (cs := #[.slice none 0 0, .int .i64 0]) ?_ 0 _ rfl; (with_reducible repeat (first | refine blk_drewN ?_ _ | refine blk_drew ?_ | refine blk_alloc ?_ _)); exact BK431.out) Try.underlying66 rfl (by kernel_rfl)) rfl ?_
        exact ⟨_, by first | rfl | (simp [errW_none, errW_some] <;> rfl) | (simp [*, errW_none, errW_some] <;> rfl), by first | exact Kd.R_nil _ _ _ _ _ | exact Kd.N_nil _ _ _ _ _ | exact Kd.V_nil _ _ _ _ _ | exact Kd.Q_nil _ _ _ _ _ | exact Kd.S_nil _ _ _ _ _, by repeat (first | (with_reducible first | exact HB.out | apply below_alloc | apply pw_below_drewN | apply below_drew1 | refine below_set ?_ GE430.out | refine below_set ?_ GE431.out) | exact HB.out)⟩
      · replace c15 := Bool.eq_false_iff.mpr c15
        subst c15
        have H1 : ((weftlineref14_find.f kj2 l0_0 a0_1 a1).bind fun t434 => (if t434 ≥ 0 then (some (([] : List (S29)), 0, 12)) else (if (l0_0.length : Int) = 4 then (some (([] : List (S29)), 0, 3)) else ((some (([] : List (S29)) : List (S29))).bind fun y435 => (if y435.length + l0_0.length < 1599289640401 then ((some (y435 ++ l0_0 : List (S29))).bind fun y438 => ((weftlineref13_New.f a1).bind fun bt441 => (if y438.length < 1599289640401 then (some ((y438 ++ [(⟨(⟨bt441.1, bt441.2.1, bt441.2.2.1, bt441.2.2.2.1⟩ : S23), (⟨bt441.2.2.2.2.1, bt441.2.2.2.2.2.1, bt441.2.2.2.2.2.2.1⟩ : S25), bt441.2.2.2.2.2.2.2.1, bt441.2.2.2.2.2.2.2.2.1, bt441.2.2.2.2.2.2.2.2.2.1, bt441.2.2.2.2.2.2.2.2.2.2⟩ : S29)]), a0_1, 0)) else (none)))) else (none)))))) = some (r1, r2, r3) := by rw [if_neg (show ¬ (false = true) by decide)] at H; exact H
        clear H
        have H := H1
        clear H1
        replace H := Option.bind_eq_some_iff.mp H
        obtain ⟨t434, A180, H⟩ := H
        replace H : (if t434 ≥ 0 then (some (([] : List (S29)), 0, 12)) else (if (l0_0.length : Int) = 4 then (some (([] : List (S29)), 0, 3)) else ((some (([] : List (S29)) : List (S29))).bind fun y435 => (if y435.length + l0_0.length < 1599289640401 then ((some (y435 ++ l0_0 : List (S29))).bind fun y438 => ((weftlineref13_New.f a1).bind fun bt441 => (if y438.length < 1599289640401 then (some ((y438 ++ [(⟨(⟨bt441.1, bt441.2.1, bt441.2.2.1, bt441.2.2.2.1⟩ : S23), (⟨bt441.2.2.2.2.1, bt441.2.2.2.2.2.1, bt441.2.2.2.2.2.2.1⟩ : S25), bt441.2.2.2.2.2.2.2.1, bt441.2.2.2.2.2.2.2.2.1, bt441.2.2.2.2.2.2.2.2.2.1, bt441.2.2.2.2.2.2.2.2.2.2⟩ : S29)]), a0_1, 0)) else (none)))) else (none))))) = some (r1, r2, r3) := H
        have A18 := Aside0.mk A180
        clear A180
        by_cases c19 : t434 ≥ 0
        · rw [if_pos c19] at H
          have c19b0 : decide (0 ≤ t434) = true := decide_eq_true c19
          clear c19
          simp only [Option.some.injEq, Prod.mk.injEq] at H
          obtain ⟨rfl, rfl, rfl⟩ := H
          have hnb20 := NB430_431.out
          have hnc20 := NB431_430.out
          have hcz21_0 : wc.cell? ⟨gb430, 0, none⟩ = some (.slice A0_0 l0_0.length c0_0) := (blk_cell BK430.out 0).trans rfl
          have hcz21_1 : wc.cell? ⟨gb430, 1, none⟩ = some (.int .i64 a0_1) := (blk_cell BK430.out 1).trans rfl
          have hfz21_0 := blk_frozen BK430.out 0
          have hfz21_1 := blk_frozen BK430.out 1
          go_wp2_with (first | ((with_reducible refine gate_callee (f := 83) rfl ?_); refine goesL_ (some 17) rfl rfl Try.func83 (by kernel_rfl) rfl #[.agg #[.slice A0_0 l0_0.length c0_0, .int .i64 a0_1], .int .i64 a1] rfl (by (try simp only [List.map_toArray, List.map_cons, List.map_nil]); first | done | rfl | (simp only [List.length_drop, List.length_take]; rfl)) ?_; (with_reducible refine (weftlineref14_find.calls kj2 _ _ l0_0 a0_1 a1 t434 _ ?side1 ?side2 A18.out).mono ?_); (case side1 => repeat (first | exact (Kd.C_below HR0_0.out HB.out) | (with_reducible refine Kd.C_alloc ?_ _) | (with_reducible refine Kd.C_drewN ?_ _) | (with_reducible refine Kd.C_drew ?_))); (case side2 => exact HC0_0.out); rintro e w22 ⟨rfl, hb⟩; refine ⟨_, rfl, ?_⟩; have n0_ := Aside0.mk (blk_below (g := gb430) (o := .cells #[.slice A0_0 l0_0.length c0_0, .int .i64 a0_1] 66 (0, 0)) (by (with_reducible repeat (first | refine blk_drewN ?_ _ | refine blk_drew ?_ | refine blk_alloc ?_ _)); exact BK430.out) hb); have n1_ := Aside0.mk (blk_below (g := gb431) (o := .cells #[.slice none 0 0, .int .i64 0] 66 (0, 0)) (by (with_reducible repeat (first | refine blk_drewN ?_ _ | refine blk_drew ?_ | refine blk_alloc ?_ _)); exact BK431.out) hb); have n2_ := Aside0.mk (below_step (by repeat (first | (with_reducible first | exact HB.out | apply below_alloc | apply pw_below_drewN | apply below_drew1 | refine below_set ?_ GE430.out | refine below_set ?_ GE431.out) | exact HB.out)) hb); clear BK430; clear BK431; clear HB; have BK430 := n0_; have BK431 := n1_; have HB := n2_; clear n0_ n1_ n2_; (try clear hb); (try clear hb2); (try clear hk); (try clear hi); have hcz23_0 : w22.cell? ⟨gb431, 0, none⟩ = some (.slice none 0 0) := (blk_cell BK431.out 0).trans rfl; have hcz23_1 : w22.cell? ⟨gb431, 1, none⟩ = some (.int .i64 0) := (blk_cell BK431.out 1).trans rfl; have hfz23_0 := blk_frozen BK431.out 0; have hfz23_1 := blk_frozen BK431.out 1))
          refine bodyPost_ret (results_ct rfl _ _ gb431 66 #[.slice none 0 0, .int .i64 0] (0, 0) _ rfl (by (with_reducible repeat (first | refine blk_drewN ?_ _ | refine blk_drew ?_ | refine blk_alloc ?_ _)); refine blk_put (cs := #[.slice none 0 0, .int .i64 0]) ?_ 1 _ rfl; (with_reducible repeat (first | refine blk_drewN ?_ _ | refine blk_drew ?_ | refine blk_alloc ?_ _)); refine blk_put (cs := #[.slice none 0 0, .int .i64 0]) ?_ 0 _ rfl; (with_reducible repeat (first | refine blk_drewN ?_ _ | refine blk_drew ?_ | refine blk_alloc ?_ _)); exact BK431.out) Try.underlying66 rfl (by kernel_rfl)) rfl ?_
          exact ⟨_, by first | rfl | (simp [errW_none, errW_some] <;> rfl) | (simp [*, errW_none, errW_some] <;> rfl), by first | exact Kd.R_nil _ _ _ _ _ | exact Kd.N_nil _ _ _ _ _ | exact Kd.V_nil _ _ _ _ _ | exact Kd.Q_nil _ _ _ _ _ | exact Kd.S_nil _ _ _ _ _, by repeat (first | (with_reducible first | exact HB.out | apply below_alloc | apply pw_below_drewN | apply below_drew1 | refine below_set ?_ GE430.out | refine below_set ?_ GE431.out) | exact HB.out)⟩
        · rw [if_neg c19] at H
          have c19b0 : decide (0 ≤ t434) = false := decide_eq_false c19
          clear c19
          by_cases c24 : (l0_0.length : Int) = 4
          · rw [if_pos c24] at H
            have c24b0 : ((l0_0.length : Int) == 4) = true := beq_iff_eq.mpr c24
            have c24b1 : ((l0_0.length : Int) != 4) = false := bne_eq_false_iff_eq.mpr c24
            clear c24
            simp only [Option.some.injEq, Prod.mk.injEq] at H
            obtain ⟨rfl, rfl, rfl⟩ := H
            have hnb25 := NB430_431.out
            have hnc25 := NB431_430.out
            have hcz26_0 : wc.cell? ⟨gb430, 0, none⟩ = some (.slice A0_0 l0_0.length c0_0) := (blk_cell BK430.out 0).trans rfl
            have hcz26_1 : wc.cell? ⟨gb430, 1, none⟩ = some (.int .i64 a0_1) := (blk_cell BK430.out 1).trans rfl
            have hfz26_0 := blk_frozen BK430.out 0
            have hfz26_1 := blk_frozen BK430.out 1
            go_wp2_with (first | ((with_reducible refine gate_callee (f := 83) rfl ?_); refine goesL_ (some 17) rfl rfl Try.func83 (by kernel_rfl) rfl #[.agg #[.slice A0_0 l0_0.length c0_0, .int .i64 a0_1], .int .i64 a1] rfl (by (try simp only [List.map_toArray, List.map_cons, List.map_nil]); first | done | rfl | (simp only [List.length_drop, List.length_take]; rfl)) ?_; (with_reducible refine (weftlineref14_find.calls kj2 _ _ l0_0 a0_1 a1 t434 _ ?side1 ?side2 A18.out).mono ?_); (case side1 => repeat (first | exact (Kd.C_below HR0_0.out HB.out) | (with_reducible refine Kd.C_alloc ?_ _) | (with_reducible refine Kd.C_drewN ?_ _) | (with_reducible refine Kd.C_drew ?_))); (case side2 => exact HC0_0.out); rintro e w27 ⟨rfl, hb⟩; refine ⟨_, rfl, ?_⟩; have n0_ := Aside0.mk (blk_below (g := gb430) (o := .cells #[.slice A0_0 l0_0.length c0_0, .int .i64 a0_1] 66 (0, 0)) (by (with_reducible repeat (first | refine blk_drewN ?_ _ | refine blk_drew ?_ | refine blk_alloc ?_ _)); exact BK430.out) hb); have n1_ := Aside0.mk (blk_below (g := gb431) (o := .cells #[.slice none 0 0, .int .i64 0] 66 (0, 0)) (by (with_reducible repeat (first | refine blk_drewN ?_ _ | refine blk_drew ?_ | refine blk_alloc ?_ _)); exact BK431.out) hb); have n2_ := Aside0.mk (below_step (by repeat (first | (with_reducible first | exact HB.out | apply below_alloc | apply pw_below_drewN | apply below_drew1 | refine below_set ?_ GE430.out | refine below_set ?_ GE431.out) | exact HB.out)) hb); clear BK430; clear BK431; clear HB; have BK430 := n0_; have BK431 := n1_; have HB := n2_; clear n0_ n1_ n2_; (try clear hb); (try clear hb2); (try clear hk); (try clear hi); have hcz28_0 : w27.cell? ⟨gb430, 0, none⟩ = some (.slice A0_0 l0_0.length c0_0) := (blk_cell BK430.out 0).trans rfl; have hcz28_1 : w27.cell? ⟨gb430, 1, none⟩ = some (.int .i64 a0_1) := (blk_cell BK430.out 1).trans rfl; have hfz28_0 := blk_frozen BK430.out 0; have hfz28_1 := blk_frozen BK430.out 1; have hcz29_0 : w27.cell? ⟨gb431, 0, none⟩ = some (.slice none 0 0) := (blk_cell BK431.out 0).trans rfl; have hcz29_1 : w27.cell? ⟨gb431, 1, none⟩ = some (.int .i64 0) := (blk_cell BK431.out 1).trans rfl; have hfz29_0 := blk_frozen BK431.out 0; have hfz29_1 := blk_frozen BK431.out 1))
            refine bodyPost_ret (results_ct rfl _ _ gb431 66 #[.slice none 0 0, .int .i64 0] (0, 0) _ rfl (by (with_reducible repeat (first | refine blk_drewN ?_ _ | refine blk_drew ?_ | refine blk_alloc ?_ _)); refine blk_put (cs := #[.slice none 0 0, .int .i64 0]) ?_ 1 _ rfl; (with_reducible repeat (first | refine blk_drewN ?_ _ | refine blk_drew ?_ | refine blk_alloc ?_ _)); refine blk_put (cs := #[.slice none 0 0, .int .i64 0]) ?_ 0 _ rfl; (with_reducible repeat (first | refine blk_drewN ?_ _ | refine blk_drew ?_ | refine blk_alloc ?_ _)); exact BK431.out) Try.underlying66 rfl (by kernel_rfl)) rfl ?_
            exact ⟨_, by first | rfl | (simp [errW_none, errW_some] <;> rfl) | (simp [*, errW_none, errW_some] <;> rfl), by first | exact Kd.R_nil _ _ _ _ _ | exact Kd.N_nil _ _ _ _ _ | exact Kd.V_nil _ _ _ _ _ | exact Kd.Q_nil _ _ _ _ _ | exact Kd.S_nil _ _ _ _ _, by repeat (first | (with_reducible first | exact HB.out | apply below_alloc | apply pw_below_drewN | apply below_drew1 | refine below_set ?_ GE430.out | refine below_set ?_ GE431.out) | exact HB.out)⟩
          · rw [if_neg c24] at H
            have c24b0 : ((l0_0.length : Int) == 4) = false := beq_eq_false_iff_ne.mpr c24
            have c24b1 : ((l0_0.length : Int) != 4) = true := bne_iff_ne.mpr c24
            obtain ⟨y435, hy435⟩ : ∃ y_ : List (S29), y_ = (([] : List (S29))) := ⟨_, rfl⟩
            replace H : (if y435.length + l0_0.length < 1599289640401 then ((some (y435 ++ l0_0 : List (S29))).bind fun y438 => ((weftlineref13_New.f a1).bind fun bt441 => (if y438.length < 1599289640401 then (some ((y438 ++ [(⟨(⟨bt441.1, bt441.2.1, bt441.2.2.1, bt441.2.2.2.1⟩ : S23), (⟨bt441.2.2.2.2.1, bt441.2.2.2.2.2.1, bt441.2.2.2.2.2.2.1⟩ : S25), bt441.2.2.2.2.2.2.2.1, bt441.2.2.2.2.2.2.2.2.1, bt441.2.2.2.2.2.2.2.2.2.1, bt441.2.2.2.2.2.2.2.2.2.2⟩ : S29)]), a0_1, 0)) else (none)))) else (none)) = some (r1, r2, r3) := by first | (rw [hy435]; with_reducible exact H) | (have H2_ := (Option.bind_some _ _).symm.trans H; rw [hy435]; with_reducible exact H2_) | (have H2_ := (Option.bind_some _ _).symm.trans H; with_reducible exact H2_) | with_reducible exact H | (rw [hy435]; exact H) | exact H
            have Ny435 := Aside0.mk hy435
            clear hy435
            by_cases c30 : y435.length + l0_0.length < 1599289640401
            · rw [if_pos c30] at H
              have LMc30 := Aside0.mk c30
              clear c30
              obtain ⟨y438, hy438⟩ : ∃ y_ : List (S29), y_ = (y435 ++ l0_0) := ⟨_, rfl⟩
              replace H : ((weftlineref13_New.f a1).bind fun bt441 => (if y438.length < 1599289640401 then (some ((y438 ++ [(⟨(⟨bt441.1, bt441.2.1, bt441.2.2.1, bt441.2.2.2.1⟩ : S23), (⟨bt441.2.2.2.2.1, bt441.2.2.2.2.2.1, bt441.2.2.2.2.2.2.1⟩ : S25), bt441.2.2.2.2.2.2.2.1, bt441.2.2.2.2.2.2.2.2.1, bt441.2.2.2.2.2.2.2.2.2.1, bt441.2.2.2.2.2.2.2.2.2.2⟩ : S29)]), a0_1, 0)) else (none))) = some (r1, r2, r3) := by first | (rw [hy438]; with_reducible exact H) | (have H2_ := (Option.bind_some _ _).symm.trans H; rw [hy438]; with_reducible exact H2_) | (have H2_ := (Option.bind_some _ _).symm.trans H; with_reducible exact H2_) | with_reducible exact H | (rw [hy438]; exact H) | exact H
              have Ny438 := Aside0.mk hy438
              clear hy438
              replace H := Option.bind_eq_some_iff.mp H
              obtain ⟨⟨t441, t442, t443, t444, t445, t446, t447, t448, t449, t450, t451⟩, A310, H⟩ := H
              replace H : (if y438.length < 1599289640401 then (some ((y438 ++ [(⟨(⟨t441, t442, t443, t444⟩ : S23), (⟨t445, t446, t447⟩ : S25), t448, t449, t450, t451⟩ : S29)]), a0_1, 0)) else (none)) = some (r1, r2, r3) := H
              have A31 := Aside0.mk A310
              clear A310
              by_cases c32 : y438.length < 1599289640401
              · rw [if_pos c32] at H
                have LMc32 := Aside0.mk c32
                clear c32
                obtain ⟨y452, hy452⟩ : ∃ y_ : List (S29), y_ = (y438 ++ [(⟨(⟨t441, t442, t443, t444⟩ : S23), (⟨t445, t446, t447⟩ : S25), t448, t449, t450, t451⟩ : S29)]) := ⟨_, rfl⟩
                replace H : (some (y452, a0_1, 0)) = some (r1, r2, r3) := by first | (rw [hy452]; with_reducible exact H) | (have H2_ := (Option.bind_some _ _).symm.trans H; rw [hy452]; with_reducible exact H2_) | (have H2_ := (Option.bind_some _ _).symm.trans H; with_reducible exact H2_) | with_reducible exact H | (rw [hy452]; exact H) | exact H
                have Ny452 := Aside0.mk hy452
                clear hy452
                simp only [Option.some.injEq, Prod.mk.injEq] at H
                obtain ⟨rfl, rfl, rfl⟩ := H
                have hnb33 := NB430_431.out
                have hnc33 := NB431_430.out
                have hcz34_0 : wc.cell? ⟨gb430, 0, none⟩ = some (.slice A0_0 l0_0.length c0_0) := (blk_cell BK430.out 0).trans rfl
                have hcz34_1 : wc.cell? ⟨gb430, 1, none⟩ = some (.int .i64 a0_1) := (blk_cell BK430.out 1).trans rfl
                have hfz34_0 := blk_frozen BK430.out 0
                have hfz34_1 := blk_frozen BK430.out 1
                go_wp2_with (first | ((with_reducible refine gate_callee (f := 83) rfl ?_); refine goesL_ (some 17) rfl rfl Try.func83 (by kernel_rfl) rfl #[.agg #[.slice A0_0 l0_0.length c0_0, .int .i64 a0_1], .int .i64 a1] rfl (by (try simp only [List.map_toArray, List.map_cons, List.map_nil]); first | done | rfl | (simp only [List.length_drop, List.length_take]; rfl)) ?_; (with_reducible refine (weftlineref14_find.calls kj2 _ _ l0_0 a0_1 a1 t434 _ ?side1 ?side2 A18.out).mono ?_); (case side1 => repeat (first | exact (Kd.C_below HR0_0.out HB.out) | (with_reducible refine Kd.C_alloc ?_ _) | (with_reducible refine Kd.C_drewN ?_ _) | (with_reducible refine Kd.C_drew ?_))); (case side2 => exact HC0_0.out); rintro e w35 ⟨rfl, hb⟩; refine ⟨_, rfl, ?_⟩; have n0_ := Aside0.mk (blk_below (g := gb430) (o := .cells #[.slice A0_0 l0_0.length c0_0, .int .i64 a0_1] 66 (0, 0)) (by (with_reducible repeat (first | refine blk_drewN ?_ _ | refine blk_drew ?_ | refine blk_alloc ?_ _)); exact BK430.out) hb); have n1_ := Aside0.mk (blk_below (g := gb431) (o := .cells #[.slice none 0 0, .int .i64 0] 66 (0, 0)) (by (with_reducible repeat (first | refine blk_drewN ?_ _ | refine blk_drew ?_ | refine blk_alloc ?_ _)); exact BK431.out) hb); have n2_ := Aside0.mk (below_step (by repeat (first | (with_reducible first | exact HB.out | apply below_alloc | apply pw_below_drewN | apply below_drew1 | refine below_set ?_ GE430.out | refine below_set ?_ GE431.out) | exact HB.out)) hb); clear BK430; clear BK431; clear HB; have BK430 := n0_; have BK431 := n1_; have HB := n2_; clear n0_ n1_ n2_; (try clear hb); (try clear hb2); (try clear hk); (try clear hi); have hcz36_0 : w35.cell? ⟨gb430, 0, none⟩ = some (.slice A0_0 l0_0.length c0_0) := (blk_cell BK430.out 0).trans rfl; have hcz36_1 : w35.cell? ⟨gb430, 1, none⟩ = some (.int .i64 a0_1) := (blk_cell BK430.out 1).trans rfl; have hfz36_0 := blk_frozen BK430.out 0; have hfz36_1 := blk_frozen BK430.out 1) | ((with_reducible refine gate_dst (N := 25) rfl ?_); refine Kd.R_lit k29 _ 29 ?hg (N := 25) ?hd (xs := ([] : List (S29))) (inner := []) (ok := fun _ => True) (okp := fun _ => True) ?hr ?hp (fun _ hk => hk) trivial (Below.refl _ _) (Nat.le_refl _) (by simp) ?_; (case hd => rfl); (case hg => rfl); (case hr => first | (go_simp; done) | (go_simp; rfl)); (case hp => exact (Reps.none _ _)); intro v436 w37 ho38 hb hg_ hnew_; clear hg_ hnew_; (first | rw [← Ny435.out] at ho38 | (simp only [Int.reduceToNat] at ho38; rw [← Ny435.out] at ho38)); have n0_ := Aside0.mk (Kd.R_lower ho38 (below_size (by repeat (first | (with_reducible first | exact HB.out | apply below_alloc | apply pw_below_drewN | apply below_drew1 | refine below_set ?_ GE430.out | refine below_set ?_ GE431.out) | exact HB.out)))); have n1_ := Aside0.mk (blk_below (g := gb430) (o := .cells #[.slice A0_0 l0_0.length c0_0, .int .i64 a0_1] 66 (0, 0)) (by (with_reducible repeat (first | refine blk_drewN ?_ _ | refine blk_drew ?_ | refine blk_alloc ?_ _)); exact BK430.out) hb); have n2_ := Aside0.mk (blk_below (g := gb431) (o := .cells #[.slice none 0 0, .int .i64 0] 66 (0, 0)) (by (with_reducible repeat (first | refine blk_drewN ?_ _ | refine blk_drew ?_ | refine blk_alloc ?_ _)); exact BK431.out) hb); have n3_ := Aside0.mk (below_step (by repeat (first | (with_reducible first | exact HB.out | apply below_alloc | apply pw_below_drewN | apply below_drew1 | refine below_set ?_ GE430.out | refine below_set ?_ GE431.out) | exact HB.out)) hb); clear BK430; clear BK431; clear HB; have HO437 := n0_; have BK430 := n1_; have BK431 := n2_; have HB := n3_; clear n0_ n1_ n2_ n3_; clear hb ho38; have hcz39_0 : w37.cell? ⟨gb430, 0, none⟩ = some (.slice A0_0 l0_0.length c0_0) := (blk_cell BK430.out 0).trans rfl; have hcz39_1 : w37.cell? ⟨gb430, 1, none⟩ = some (.int .i64 a0_1) := (blk_cell BK430.out 1).trans rfl; have hfz39_0 := blk_frozen BK430.out 0; have hfz39_1 := blk_frozen BK430.out 1) | ((with_reducible refine gate_builtin (b := .append) (xs := #[.tmp 25, .tmp 27]) rfl ?_); at_builtin; refine Kd.R_append_rows k29 (w0 := w) w.heap.size rfl (.tmp 25) (.tmp 27) 64 29 (.agg #[(.int .i64 0), (.int .i64 0), (.int .i64 0), (.bool false), (.int .i64 0), (.int .i64 0), (.int .i64 0), (.int .i64 0), (.int .i64 0), (.int .u32 0), (.int .i64 0)]) 88 rfl Try.underlying64 info29 rfl (by decide) (by omega) v436 y435 l0_0 _ _ _ (fun _ => True) (fun _ => False) rfl rfl ?aO ?aR (fun _ _ h => h) (fun _ h => h.elim) ?aF ?aB ?aS ?aL ?_; (case aR => repeat (first | exact (Kd.C_below HR0_0.out HB.out) | (with_reducible refine Kd.C_alloc ?_ _) | (with_reducible refine Kd.C_drewN ?_ _) | (with_reducible refine Kd.C_drew ?_))); (case aB => exact (by repeat (first | (with_reducible first | exact HB.out | apply below_alloc | apply pw_below_drewN | apply below_drew1 | refine below_set ?_ GE430.out | refine below_set ?_ GE431.out) | exact HB.out))); (case aF => exact (fun _ _ => trivial)); (case aO => exact (by (with_reducible repeat (first | apply Kd.R_alloc | apply Kd.R_drewN | apply Kd.R_drew)); exact HO437.out)); (case aS => exact (below_size (by repeat (first | (with_reducible first | exact HB.out | apply below_alloc | apply pw_below_drewN | apply below_drew1 | refine below_set ?_ GE430.out | refine below_set ?_ GE431.out) | exact HB.out)))); (case aL => have := LMc30.out; omega); intro v439 w40 ho hb hg hat; rw [← Ny438.out] at ho; have n0_ := Aside0.mk (blk_grown (g := gb430) (o := .cells #[.slice A0_0 l0_0.length c0_0, .int .i64 a0_1] 66 (0, 0)) (by (with_reducible repeat (first | refine blk_drewN ?_ _ | refine blk_drew ?_ | refine blk_alloc ?_ _)); exact BK430.out) hg (Kd.R_ne HO437.out BK430.out (by decide))); have n1_ := Aside0.mk (blk_grown (g := gb431) (o := .cells #[.slice none 0 0, .int .i64 0] 66 (0, 0)) (by (with_reducible repeat (first | refine blk_drewN ?_ _ | refine blk_drew ?_ | refine blk_alloc ?_ _)); exact BK431.out) hg (Kd.R_ne HO437.out BK431.out (by decide))); have n2_ := Aside0.mk (hb); have n3_ := Aside0.mk (ho); clear BK430; clear BK431; clear HB; clear HO437; have BK430 := n0_; have BK431 := n1_; have HB := n2_; have HO440 := n3_; clear n0_ n1_ n2_ n3_; clear ho hb hg hat) | ((with_reducible refine gate_callee (f := 17) rfl ?_); refine goesL_ (some 30) rfl rfl Try.func17 (by kernel_rfl) rfl #[.int .i64 a1] rfl (by (try simp only [List.map_toArray, List.map_cons, List.map_nil]); first | done | rfl | (simp only [List.length_drop, List.length_take]; rfl)) ?_; (with_reducible refine (weftlineref13_New.calls a1 t441 t442 t443 t444 t445 t446 t447 t448 t449 t450 t451 _ A31.out).mono ?_); rintro e w41 ⟨rfl, hb⟩; refine ⟨_, rfl, ?_⟩; have n0_ := Aside0.mk (Kd.R_below (by (with_reducible repeat (first | apply Kd.R_alloc | apply Kd.R_drewN | apply Kd.R_drew)); exact HO440.out) hb); have n1_ := Aside0.mk (blk_below (g := gb430) (o := .cells #[.slice A0_0 l0_0.length c0_0, .int .i64 a0_1] 66 (0, 0)) (by (with_reducible repeat (first | refine blk_drewN ?_ _ | refine blk_drew ?_ | refine blk_alloc ?_ _)); exact BK430.out) hb); have n2_ := Aside0.mk (blk_below (g := gb431) (o := .cells #[.slice none 0 0, .int .i64 0] 66 (0, 0)) (by (with_reducible repeat (first | refine blk_drewN ?_ _ | refine blk_drew ?_ | refine blk_alloc ?_ _)); exact BK431.out) hb); have n3_ := Aside0.mk (below_step (by repeat (first | (with_reducible first | exact HB.out | apply below_alloc | apply pw_below_drewN | apply below_drew1 | refine below_set ?_ GE430.out | refine below_set ?_ GE431.out) | exact HB.out)) hb); clear HO440; clear BK430; clear BK431; clear HB; have HO440 := n0_; have BK430 := n1_; have BK431 := n2_; have HB := n3_; clear n0_ n1_ n2_ n3_; (try clear hb); (try clear hb2); (try clear hk); (try clear hi)) | ((with_reducible refine gate_builtin (b := .append) (xs := #[.tmp 28, .tmp 31]) rfl ?_); at_builtin; refine Kd.R_append k29 (w0 := w) w.heap.size rfl (.tmp 28) (.tmp 31) 64 29 (.agg #[(.int .i64 0), (.int .i64 0), (.int .i64 0), (.bool false), (.int .i64 0), (.int .i64 0), (.int .i64 0), (.int .i64 0), (.int .i64 0), (.int .u32 0), (.int .i64 0)]) 88 rfl Try.underlying64 info29 rfl (by decide) (by omega) v439 y438 (⟨(⟨t441, t442, t443, t444⟩ : S23), (⟨t445, t446, t447⟩ : S25), t448, t449, t450, t451⟩ : S29) [.int .i64 t441, .int .i64 t442, .int .i64 t443, .bool t444, .int .i64 t445, .int .i64 t446, .int .i64 t447, .int .i64 t448, .int .i64 t449, .int .u32 t450, .int .i64 t451] (fun _ => True) (fun _ => False) rfl rfl ?aP (fun _ hk => hk.elim) ?aF ?aO ?aB ?aS ?aL ?_; (case aP => exact k29_mkM _ _ _ (⟨(⟨t441, t442, t443, t444⟩ : S23), (⟨t445, t446, t447⟩ : S25), t448, t449, t450, t451⟩ : S29)); (case aB => exact (by repeat (first | (with_reducible first | exact HB.out | apply below_alloc | apply pw_below_drewN | apply below_drew1 | refine below_set ?_ GE430.out | refine below_set ?_ GE431.out) | exact HB.out))); (case aF => exact (fun _ _ => trivial)); (case aO => exact (by (with_reducible repeat (first | apply Kd.R_alloc | apply Kd.R_drewN | apply Kd.R_drew)); exact HO440.out)); (case aS => exact (below_size (by repeat (first | (with_reducible first | exact HB.out | apply below_alloc | apply pw_below_drewN | apply below_drew1 | refine below_set ?_ GE430.out | refine below_set ?_ GE431.out) | exact HB.out)))); (case aL => have := LMc32.out; omega); intro v453 w42 ho hb hg hat; rw [← Ny452.out] at ho; have n0_ := Aside0.mk (blk_grown (g := gb430) (o := .cells #[.slice A0_0 l0_0.length c0_0, .int .i64 a0_1] 66 (0, 0)) (by (with_reducible repeat (first | refine blk_drewN ?_ _ | refine blk_drew ?_ | refine blk_alloc ?_ _)); exact BK430.out) hg (Kd.R_ne HO440.out BK430.out (by decide))); have n1_ := Aside0.mk (blk_grown (g := gb431) (o := .cells #[.slice none 0 0, .int .i64 0] 66 (0, 0)) (by (with_reducible repeat (first | refine blk_drewN ?_ _ | refine blk_drew ?_ | refine blk_alloc ?_ _)); exact BK431.out) hg (Kd.R_ne HO440.out BK431.out (by decide))); have n2_ := Aside0.mk (hb); have n3_ := Aside0.mk (ho); clear BK430; clear BK431; clear HB; clear HO440; have BK430 := n0_; have BK431 := n1_; have HB := n2_; have HO454 := n3_; clear n0_ n1_ n2_ n3_; clear ho hb hg hat; obtain ⟨Ao43, co43, eo43⟩ := Kd.R_slice HO454.out; subst eo43; have hcz44_0 : w42.cell? ⟨gb430, 0, none⟩ = some (.slice A0_0 l0_0.length c0_0) := (blk_cell BK430.out 0).trans rfl; have hcz44_1 : w42.cell? ⟨gb430, 1, none⟩ = some (.int .i64 a0_1) := (blk_cell BK430.out 1).trans rfl; have hfz44_0 := blk_frozen BK430.out 0; have hfz44_1 := blk_frozen BK430.out 1; have hcz45_0 : w42.cell? ⟨gb431, 0, none⟩ = some (.slice none 0 0) := (blk_cell BK431.out 0).trans rfl; have hcz45_1 : w42.cell? ⟨gb431, 1, none⟩ = some (.int .i64 0) := (blk_cell BK431.out 1).trans rfl; have hfz45_0 := blk_frozen BK431.out 0; have hfz45_1 := blk_frozen BK431.out 1))
                refine bodyPost_ret (results_ct rfl _ _ gb431 66 #[.slice Ao43 y452.length co43, .int .i64 a0_1] (0, 0) _ rfl (by (with_reducible repeat (first | refine blk_drewN ?_ _ | refine blk_drew ?_ | refine blk_alloc ?_ _)); refine blk_put (cs := #[.slice Ao43 y452.length co43, .int .i64 0]) ?_ 1 _ rfl; (with_reducible repeat (first | refine blk_drewN ?_ _ | refine blk_drew ?_ | refine blk_alloc ?_ _)); refine blk_put (cs := #[.slice none 0 0, .int .i64 0]) ?_ 0 _ rfl; (with_reducible repeat (first | refine blk_drewN ?_ _ | refine blk_drew ?_ | refine blk_alloc ?_ _)); refine blk_far ?_ NB431_430.out _; (with_reducible repeat (first | refine blk_drewN ?_ _ | refine blk_drew ?_ | refine blk_alloc ?_ _)); exact BK431.out) Try.underlying66 rfl (by kernel_rfl)) rfl ?_
                exact ⟨_, by first | rfl | (simp [errW_none, errW_some] <;> rfl) | (simp [*, errW_none, errW_some] <;> rfl), by (with_reducible repeat (first | apply Kd.R_alloc | apply Kd.R_drewN | apply Kd.R_drew)); exact Kd.R_mono (Kd.R_far (p := ⟨gb431, 1, none⟩) (Kd.R_far (p := ⟨gb431, 0, none⟩) (Kd.R_far (p := ⟨gb430, 0, none⟩) (Kd.R_types (Kd.R_types HO454.out BK430.out (by decide)) BK431.out (by decide)) (fun _ hk => hk.1.2) (.slice Ao43 y452.length co43)) (fun _ hk => hk.2) (.slice Ao43 y452.length co43)) (fun _ hk => hk.2) (.int .i64 a0_1)) (fun _ hk => trivial), by repeat (first | (with_reducible first | exact HB.out | apply below_alloc | apply pw_below_drewN | apply below_drew1 | refine below_set ?_ GE430.out | refine below_set ?_ GE431.out) | exact HB.out)⟩
              · rw [if_neg c32] at H
                exact absurd H (by simp)
            · rw [if_neg c30] at H
              exact absurd H (by simp)

end Go.Proofs.Ytblooffiggciiaa.PPs
/- PPsx74 -/
namespace Go.Proofs.Ytblooffiggciiaa.PPs
open Go.RowKit Go.Proofs.YtblooffiggciiaaW.PrintWords Go.Proofs.YtblooffiggciiaaW.PrintLast Go.Proofs.YtblooffiggciiaaW.PrintMore
attribute [local go_sem] max2_int min2_int max_two min_two max_three min_three max_four min_four   -- for this text's walks alone
attribute [local go_sem] Go.Proofs.Ytblooffiggciiaa.Aid.isSome_setCell
def weftlineref14_Delete.l0 : Nat → Int → Int → List (S29) → Int → List (S29) → Int → Option ((List (S29)) × Int × Int)
  | 0, _, _, _, _, _, _ => none
  | k + 1, x6, x8, x458000, x458001, x462000, x462001 => if x8 < (x458000.length : Int) then (if x8 = x6 then (weftlineref14_Delete.l0 k x6 (wrap64 (x8 + 1)) x458000 x458001 x462000 x462001) else (if x8 = x458001 then (if 0 ≤ x8 then (if x462000.length < 1599289640401 then (weftlineref14_Delete.l0 k x6 (wrap64 (x8 + 1)) x458000 x458001 (x462000 ++ [(⟨(⟨(rd_T29 x458000 x8).f0.f0, (rd_T29 x458000 x8).f0.f1, (rd_T29 x458000 x8).f0.f2, (rd_T29 x458000 x8).f0.f3⟩ : S23), (⟨(rd_T29 x458000 x8).f1.f0, (rd_T29 x458000 x8).f1.f1, (rd_T29 x458000 x8).f1.f2⟩ : S25), (rd_T29 x458000 x8).f2, (rd_T29 x458000 x8).f3, (rd_T29 x458000 x8).f4, (rd_T29 x458000 x8).f5⟩ : S29)]) (x462000.length : Int)) else (none)) else (none)) else (if 0 ≤ x8 then (if x462000.length < 1599289640401 then (weftlineref14_Delete.l0 k x6 (wrap64 (x8 + 1)) x458000 x458001 (x462000 ++ [(⟨(⟨(rd_T29 x458000 x8).f0.f0, (rd_T29 x458000 x8).f0.f1, (rd_T29 x458000 x8).f0.f2, (rd_T29 x458000 x8).f0.f3⟩ : S23), (⟨(rd_T29 x458000 x8).f1.f0, (rd_T29 x458000 x8).f1.f1, (rd_T29 x458000 x8).f1.f2⟩ : S25), (rd_T29 x458000 x8).f2, (rd_T29 x458000 x8).f3, (rd_T29 x458000 x8).f4, (rd_T29 x458000 x8).f5⟩ : S29)]) x462001) else (none)) else (none)))) else (some (x462000, x462001, 0))
def weftlineref14_Delete.f (k : Nat) (l0_0 : List (S29)) (a0_1 : Int) (a1 : Int) : Option ((List (S29)) × Int × Int) := (weftlineref14_Good.f k l0_0 a0_1).bind fun t459 => (if t459 = true then ((weftlineref14_find.f k l0_0 a0_1 a1).bind fun t460 => (if t460 < 0 then (some (([] : List (S29)), 0, 4)) else (if (l0_0.length : Int) = 1 then (some (([] : List (S29)), 0, 5)) else (weftlineref14_Delete.l0 k t460 0 l0_0 a0_1 ([] : List (S29)) 0)))) else (some (([] : List (S29)), 0, 1)))
def weftlineref14_Delete.T15 : Bool × List (List Nat × List Nat) := (true, [([], []), ([0], [0]), ([], []), ([2], [2]), ([], []), ([3, 4], [3, 4]), ([5], [5]), ([6], [6]), ([1, 7], [1, 7]), ([0, 1, 2, 3, 4, 5, 6, 7, 8], []), ([9, 8, 8, 0, 1, 2, 3, 4, 5, 6, 7, 8], [8, 9])])
def weftlineref14_Delete.B15 : List Nat := [0, 1, 0, 4, 0, 28, 60, 124, 255, 511, 1023]
theorem weftlineref14_Delete.tab15 : rtab .any (opsOf Try.f59 15) = weftlineref14_Delete.T15 := by kernel_rfl
theorem weftlineref14_Delete.bits15 : waitsOk weftlineref14_Delete.T15.2 weftlineref14_Delete.B15 = true := by kernel_rfl
set_option maxHeartbeats 8000000 in
set_option maxRecDepth 100000 in
theorem weftlineref14_Delete.calls (k : Nat) (A0_0 : Option Addr) (c0_0 : Nat) (l0_0 : List (S29)) (a0_1 : Int) (a1 : Int) (r1 : List (S29)) (r2 : Int) (r3 : Int) (w : World) (hr0_0 : Kd.C k29 w A0_0 l0_0.length l0_0) (hc0_0 : l0_0.length ≤ c0_0) (h : weftlineref14_Delete.f k l0_0 a0_1 a1 = some (r1, r2, r3)) :
    Calls Try.prog 59 #[.agg #[.slice A0_0 l0_0.length c0_0, .int .i64 a0_1], .int .i64 a1] w fun e w' => ∃ v0_ : Value, e = .returned (.tuple #[.agg #[v0_, .int .i64 r2], .int .i64 r3]) ∧ Kd.R k29 29 w' w.heap.size (fun _ => True) v0_ r1 ∧ Below w.heap.size w w' := by
  have hu66 := Try.underlying66
  have hu29 := Try.underlying29
  have HR0_0 := Aside0.mk hr0_0
  have HC0_0 := Aside0.mk hc0_0
  clear hr0_0 hc0_0
  have HB := Aside0.mk (Below.refl w.heap.size w)
  have H : ((weftlineref14_Good.f k l0_0 a0_1).bind fun t459 => (if t459 = true then ((weftlineref14_find.f k l0_0 a0_1 a1).bind fun t460 => (if t460 < 0 then (some (([] : List (S29)), 0, 4)) else (if (l0_0.length : Int) = 1 then (some (([] : List (S29)), 0, 5)) else (weftlineref14_Delete.l0 k t460 0 l0_0 a0_1 ([] : List (S29)) 0)))) else (some (([] : List (S29)), 0, 1)))) = some (r1, r2, r3) := h
  clear h
  replace H := Option.bind_eq_some_iff.mp H
  obtain ⟨t459, A30, H⟩ := H
  replace H : (if t459 = true then ((weftlineref14_find.f k l0_0 a0_1 a1).bind fun t460 => (if t460 < 0 then (some (([] : List (S29)), 0, 4)) else (if (l0_0.length : Int) = 1 then (some (([] : List (S29)), 0, 5)) else (weftlineref14_Delete.l0 k t460 0 l0_0 a0_1 ([] : List (S29)) 0)))) else (some (([] : List (S29)), 0, 1))) = some (r1, r2, r3) := H
  have A3 := Aside0.mk A30
  clear A30
  by_cases c4 : t459 = true
  · subst c4
    have H1 : ((weftlineref14_find.f k l0_0 a0_1 a1).bind fun t460 => (if t460 < 0 then (some (([] : List (S29)), 0, 4)) else (if (l0_0.length : Int) = 1 then (some (([] : List (S29)), 0, 5)) else (weftlineref14_Delete.l0 k t460 0 l0_0 a0_1 ([] : List (S29)) 0)))) = some (r1, r2, r3) := by rw [if_pos rfl] at H; exact H
    clear H
    have H := H1
    clear H1
    replace H := Option.bind_eq_some_iff.mp H
    obtain ⟨t460, A50, H⟩ := H
    replace H : (if t460 < 0 then (some (([] : List (S29)), 0, 4)) else (if (l0_0.length : Int) = 1 then (some (([] : List (S29)), 0, 5)) else (weftlineref14_Delete.l0 k t460 0 l0_0 a0_1 ([] : List (S29)) 0))) = some (r1, r2, r3) := H
    have A5 := Aside0.mk A50
    clear A50
    by_cases c6 : t460 < 0
    · rw [if_pos c6] at H
      have c6b0 : decide (t460 < 0) = true := decide_eq_true c6
      clear c6
      simp only [Option.some.injEq, Prod.mk.injEq] at H
      obtain ⟨rfl, rfl, rfl⟩ := H
      go_enter Try.func59, Try.ntmps59
      go_wp2_with (first | ((with_reducible refine gate_dst (N := 2) rfl ?_); refine box_event ?hg (N := 2) ?hd (cs := #[.slice A0_0 l0_0.length c0_0, .int .i64 a0_1]) (t := 66) ?hr ?_; (case hd => rfl); (case hg => rfl); (case hr => first | (go_simp; done) | (go_simp; rfl)); intro gb457 hg w7 hbox hb; have n0_ := Aside0.mk (below_step (by repeat (first | (with_reducible first | exact HB.out | apply below_alloc | apply pw_below_drewN | apply below_drew1) | exact HB.out)) hb); have n1_ := Aside0.mk (hbox); have n2_ := Aside0.mk ((by rw [hg]; exact (below_size (by repeat (first | (with_reducible first | exact HB.out | apply below_alloc | apply pw_below_drewN | apply below_drew1) | exact HB.out))) : w.heap.size ≤ gb457)); have n3_ := Aside0.mk ((by rw [hg]; exact (below_size (by repeat (first | (with_reducible first | exact HB.out | apply below_alloc | apply pw_below_drewN | apply below_drew1) | exact HB.out))) : w.heap.size ≤ gb457)); clear HB; have HB := n0_; have BK457 := n1_; have GW457 := n2_; have GE457 := n3_; clear n0_ n1_ n2_ n3_; clear hb hbox hg) | ((with_reducible refine gate_dst (N := 4) rfl ?_); refine box_event ?hg (N := 4) ?hd (cs := #[.slice none 0 0, .int .i64 0]) (t := 66) ?hr ?_; (case hd => rfl); (case hg => rfl); (case hr => first | (go_simp; done) | (go_simp; rfl)); intro gb458 hg w8 hbox hb; have n0_ := Aside0.mk (blk_below (g := gb457) (o := .cells #[.slice A0_0 l0_0.length c0_0, .int .i64 a0_1] 66 (0, 0)) (by (with_reducible repeat (first | refine blk_drewN ?_ _ | refine blk_drew ?_ | refine blk_alloc ?_ _)); exact BK457.out) hb); have n1_ := Aside0.mk (below_step (by repeat (first | (with_reducible first | exact HB.out | apply below_alloc | apply pw_below_drewN | apply below_drew1 | refine below_set ?_ GE457.out) | exact HB.out)) hb); have n2_ := Aside0.mk (hbox); have n3_ := Aside0.mk ((by rw [hg]; exact (below_size (by repeat (first | (with_reducible first | exact HB.out | apply below_alloc | apply pw_below_drewN | apply below_drew1 | refine below_set ?_ GE457.out) | exact HB.out))) : w.heap.size ≤ gb458)); have n4_ := Aside0.mk ((by rw [hg]; exact (below_size (by repeat (first | (with_reducible first | exact HB.out | apply below_alloc | apply pw_below_drewN | apply below_drew1 | refine below_set ?_ GE457.out) | exact HB.out))) : w.heap.size ≤ gb458)); have n5_ := Aside0.mk ((by rw [hg]; exact Nat.ne_of_lt (blk_lt (g := gb457) (o := .cells #[.slice A0_0 l0_0.length c0_0, .int .i64 a0_1] 66 (0, 0)) (by (with_reducible repeat (first | refine blk_drewN ?_ _ | refine blk_drew ?_ | refine blk_alloc ?_ _)); exact BK457.out)) : gb457 ≠ gb458)); have n6_ := Aside0.mk ((by rw [hg]; exact Nat.ne_of_gt (blk_lt (g := gb457) (o := .cells #[.slice A0_0 l0_0.length c0_0, .int .i64 a0_1] 66 (0, 0)) (by (with_reducible repeat (first | refine blk_drewN ?_ _ | refine blk_drew ?_ | refine blk_alloc ?_ _)); exact BK457.out)) : gb458 ≠ gb457)); clear BK457; clear HB; have BK457 := n0_; have HB := n1_; have BK458 := n2_; have GW458 := n3_; have GE458 := n4_; have NB457_458 := n5_; have NB458_457 := n6_; clear n0_ n1_ n2_ n3_ n4_ n5_ n6_; clear hb hbox hg; have hnb9 := NB457_458.out; have hnc9 := NB458_457.out; have hcz10_0 : w8.cell? ⟨gb457, 0, none⟩ = some (.slice A0_0 l0_0.length c0_0) := (blk_cell BK457.out 0).trans rfl; have hcz10_1 : w8.cell? ⟨gb457, 1, none⟩ = some (.int .i64 a0_1) := (blk_cell BK457.out 1).trans rfl; have hfz10_0 := blk_frozen BK457.out 0; have hfz10_1 := blk_frozen BK457.out 1) | ((with_reducible refine gate_callee (f := 53) rfl ?_); refine goesL_ (some 10) rfl rfl Try.func53 (by kernel_rfl) rfl #[.agg #[.slice A0_0 l0_0.length c0_0, .int .i64 a0_1]] rfl (by (try simp only [List.map_toArray, List.map_cons, List.map_nil]); first | done | rfl | (simp only [List.length_drop, List.length_take]; rfl)) ?_; (with_reducible refine (weftlineref14_Good.calls k _ _ l0_0 a0_1 true _ ?side1 ?side2 A3.out).mono ?_); (case side1 => repeat (first | exact (Kd.C_below HR0_0.out HB.out) | (with_reducible refine Kd.C_alloc ?_ _) | (with_reducible refine Kd.C_drewN ?_ _) | (with_reducible refine Kd.C_drew ?_))); (case side2 => exact HC0_0.out); rintro e w11 ⟨rfl, hb⟩; refine ⟨_, rfl, ?_⟩; have n0_ := Aside0.mk (blk_below (g := gb457) (o := .cells #[.slice A0_0 l0_0.length c0_0, .int .i64 a0_1] 66 (0, 0)) (by (with_reducible repeat (first | refine blk_drewN ?_ _ | refine blk_drew ?_ | refine blk_alloc ?_ _)); exact BK457.out) hb); have n1_ := Aside0.mk (blk_below (g := gb458) (o := .cells #[.slice none 0 0, .int .i64 0] 66 (0, 0)) (by (with_reducible repeat (first | refine blk_drewN ?_ _ | refine blk_drew ?_ | refine blk_alloc ?_ _)); exact BK458.out) hb); have n2_ := Aside0.mk (below_step (by repeat (first | (with_reducible first | exact HB.out | apply below_alloc | apply pw_below_drewN | apply below_drew1 | refine below_set ?_ GE457.out | refine below_set ?_ GE458.out) | exact HB.out)) hb); clear BK457; clear BK458; clear HB; have BK457 := n0_; have BK458 := n1_; have HB := n2_; clear n0_ n1_ n2_; (try clear hb); (try clear hb2); (try clear hk); (try clear hi); have hcz12_0 : w11.cell? ⟨gb457, 0, none⟩ = some (.slice A0_0 l0_0.length c0_0) := (blk_cell BK457.out 0).trans rfl; have hcz12_1 : w11.cell? ⟨gb457, 1, none⟩ = some (.int .i64 a0_1) := (blk_cell BK457.out 1).trans rfl; have hfz12_0 := blk_frozen BK457.out 0; have hfz12_1 := blk_frozen BK457.out 1) | ((with_reducible refine gate_callee (f := 83) rfl ?_); refine goesL_ (some 15) rfl rfl Try.func83 (by kernel_rfl) rfl #[.agg #[.slice A0_0 l0_0.length c0_0, .int .i64 a0_1], .int .i64 a1] rfl (by (try simp only [List.map_toArray, List.map_cons, List.map_nil]); first | done | rfl | (simp only [List.length_drop, List.length_take]; rfl)) ?_; (with_reducible refine (weftlineref14_find.calls k _ _ l0_0 a0_1 a1 t460 _ ?side1 ?side2 A5.out).mono ?_); (case side1 => repeat (first | exact (Kd.C_below HR0_0.out HB.out) | (with_reducible refine Kd.C_alloc ?_ _) | (with_reducible refine Kd.C_drewN ?_ _) | (with_reducible refine Kd.C_drew ?_))); (case side2 => exact HC0_0.out); rintro e w13 ⟨rfl, hb⟩; refine ⟨_, rfl, ?_⟩; have n0_ := Aside0.mk (blk_below (g := gb457) (o := .cells #[.slice A0_0 l0_0.length c0_0, .int .i64 a0_1] 66 (0, 0)) (by (with_reducible repeat (first | refine blk_drewN ?_ _ | refine blk_drew ?_ | refine blk_alloc ?_ _)); exact BK457.out) hb); have n1_ := Aside0.mk (blk_below (g := gb458) (o := .cells #[.slice none 0 0, .int .i64 0] 66 (0, 0)) (by (with_reducible repeat (first | refine blk_drewN ?_ _ | refine blk_drew ?_ | refine blk_alloc ?_ _)); exact BK458.out) hb); have n2_ := Aside0.mk (below_step (by repeat (first | (with_reducible first | exact HB.out | apply below_alloc | apply pw_below_drewN | apply below_drew1 | refine below_set ?_ GE457.out | refine below_set ?_ GE458.out) | exact HB.out)) hb); clear BK457; clear BK458; clear HB; have BK457 := n0_; have BK458 := n1_; have HB := n2_; clear n0_ n1_ n2_; (try clear hb); (try clear hb2); (try clear hk); (try clear hi); have hcz14_0 : w13.cell? ⟨gb458, 0, none⟩ = some (.slice none 0 0) := (blk_cell BK458.out 0).trans rfl; have hcz14_1 : w13.cell? ⟨gb458, 1, none⟩ = some (.int .i64 0) := (blk_cell BK458.out 1).trans rfl; have hfz14_0 := blk_frozen BK458.out 0; have hfz14_1 := blk_frozen BK458.out 1))
      refine bodyPost_ret (results_ct rfl _ _ gb458 66 #[.slice none 0 0, .int .i64 0] (0, 0) _ rfl (by (with_reducible repeat (first | refine blk_drewN ?_ _ | refine blk_drew ?_ | refine blk_alloc ?_ _)); refine blk_put (cs := #[.slice none 0 0, .int .i64 0]) ?_ 1 _ rfl; (with_reducible repeat (first | refine blk_drewN ?_ _ | refine blk_drew ?_ | refine blk_alloc ?_ _)); refine blk_put (cs := #[.slice none 0 0, .int .i64 0]) ?_ 0 _ rfl; (with_reducible repeat (first | refine blk_drewN ?_ _ | refine blk_drew ?_ | refine blk_alloc ?_ _)); exact BK458.out) Try.underlying66 rfl (by kernel_rfl)) rfl ?_
      exact ⟨_, by first | rfl | (simp [errW_none, errW_some] <;> rfl) | (simp [*, errW_none, errW_some] <;> rfl), by first | exact Kd.R_nil _ _ _ _ _ | exact Kd.N_nil _ _ _ _ _ | exact Kd.V_nil _ _ _ _ _ | exact Kd.Q_nil _ _ _ _ _ | exact Kd.S_nil _ _ _ _ _, by repeat (first | (with_reducible first | exact HB.out | apply below_alloc | apply pw_below_drewN | apply below_drew1 | refine below_set ?_ GE457.out | refine below_set ?_ GE458.out) | exact HB.out)⟩
    · rw [if_neg c6] at H
      have c6b0 : decide (t460 < 0) = false := decide_eq_false c6
      clear c6
      by_cases c15 : (l0_0.length : Int) = 1
      · rw [if_pos c15] at H
        have c15b0 : ((l0_0.length : Int) == 1) = true := beq_iff_eq.mpr c15
        have c15b1 : ((l0_0.length : Int) != 1) = false := bne_eq_false_iff_eq.mpr c15
        clear c15
        simp only [Option.some.injEq, Prod.mk.injEq] at H
        obtain ⟨rfl, rfl, rfl⟩ := H
        go_enter Try.func59, Try.ntmps59
        go_wp2_with (first | ((with_reducible refine gate_dst (N := 2) rfl ?_); refine box_event ?hg (N := 2) ?hd (cs := #[.slice A0_0 l0_0.length c0_0, .int .i64 a0_1]) (t := 66) ?hr ?_; (case hd => rfl); (case hg => rfl); (case hr => first | (go_simp; done) | (go_simp; rfl)); intro gb457 hg w16 hbox hb; have n0_ := Aside0.mk (below_step (by repeat (first | (with_reducible first | exact HB.out | apply below_alloc | apply pw_below_drewN | apply below_drew1) | exact HB.out)) hb); have n1_ := Aside0.mk (hbox); have n2_ := Aside0.mk ((by rw [hg]; exact (below_size (by repeat (first | (with_reducible first | exact HB.out | apply below_alloc | apply pw_below_drewN | apply below_drew1) | exact HB.out))) : w.heap.size ≤ gb457)); have n3_ := Aside0.mk ((by rw [hg]; exact (below_size (by repeat (first | (with_reducible first | exact HB.out | apply below_alloc | apply pw_below_drewN | apply below_drew1) | exact HB.out))) : w.heap.size ≤ gb457)); clear HB; have HB := n0_; have BK457 := n1_; have GW457 := n2_; have GE457 := n3_; clear n0_ n1_ n2_ n3_; clear hb hbox hg) | ((with_reducible refine gate_dst (N := 4) rfl ?_); refine box_event ?hg (N := 4) ?hd (cs := #[.slice none 0 0, .int .i64 0]) (t := 66) ?hr ?_; (case hd => rfl); (case hg => rfl); (case hr => first | (go_simp; done) | (go_simp; rfl)); intro gb458 hg w17 hbox hb; have n0_ := Aside0.mk (blk_below (g := gb457) (o := .cells #[.slice A0_0 l0_0.length c0_0, .int .i64 a0_1] 66 (0, 0)) (by (with_reducible repeat (first | refine blk_drewN ?_ _ | refine blk_drew ?_ | refine blk_alloc ?_ _)); exact BK457.out) hb); have n1_ := Aside0.mk (below_step (by repeat (first | (with_reducible first | exact HB.out | apply below_alloc | apply pw_below_drewN | apply below_drew1 | refine below_set ?_ GE457.out) | exact HB.out)) hb); have n2_ := Aside0.mk (hbox); have n3_ := Aside0.mk ((by rw [hg]; exact (below_size (by repeat (first | (with_reducible first | exact HB.out | apply below_alloc | apply pw_below_drewN | apply below_drew1 | refine below_set ?_ GE457.out) | exact HB.out))) : w.heap.size ≤ gb458)); have n4_ := Aside0.mk ((by rw [hg]; exact (below_size (by repeat (first | (with_reducible first | exact HB.out | apply below_alloc | apply pw_below_drewN | apply below_drew1 | refine below_set ?_ GE457.out) | exact HB.out))) : w.heap.size ≤ gb458)); have n5_ := Aside0.mk ((by rw [hg]; exact Nat.ne_of_lt (blk_lt (g := gb457) (o := .cells #[.slice A0_0 l0_0.length c0_0, .int .i64 a0_1] 66 (0, 0)) (by (with_reducible repeat (first | refine blk_drewN ?_ _ | refine blk_drew ?_ | refine blk_alloc ?_ _)); exact BK457.out)) : gb457 ≠ gb458)); have n6_ := Aside0.mk ((by rw [hg]; exact Nat.ne_of_gt (blk_lt (g := gb457) (o := .cells #[.slice A0_0 l0_0.length c0_0, .int .i64 a0_1] 66 (0, 0)) (by (with_reducible repeat (first | refine blk_drewN ?_ _ | refine blk_drew ?_ | refine blk_alloc ?_ _)); exact BK457.out)) : gb458 ≠ gb457)); clear BK457; clear HB; have BK457 := n0_; have HB := n1_; have BK458 := n2_; have GW458 := n3_; have GE458 := n4_; have NB457_458 := n5_; have NB458_457 := n6_; clear n0_ n1_ n2_ n3_ n4_ n5_ n6_; clear hb hbox hg; have hnb18 := NB457_458.out; have hnc18 := NB458_457.out; have hcz19_0 : w17.cell? ⟨gb457, 0, none⟩ = some (.slice A0_0 l0_0.length c0_0) := (blk_cell BK457.out 0).trans rfl; have hcz19_1 : w17.cell? ⟨gb457, 1, none⟩ = some (.int .i64 a0_1) := (blk_cell BK457.out 1).trans rfl; have hfz19_0 := blk_frozen BK457.out 0; have hfz19_1 := blk_frozen BK457.out 1) | ((with_reducible refine gate_callee (f := 53) rfl ?_); refine goesL_ (some 10) rfl rfl Try.func53 (by kernel_rfl) rfl #[.agg #[.slice A0_0 l0_0.length c0_0, .int .i64 a0_1]] rfl (by (try simp only [List.map_toArray, List.map_cons, List.map_nil]); first | done | rfl | (simp only [List.length_drop, List.length_take]; rfl)) ?_; (with_reducible refine (weftlineref14_Good.calls k _ _ l0_0 a0_1 true _ ?side1 ?side2 A3.out).mono ?_); (case side1 => repeat (first | exact (Kd.C_below HR0_0.out HB.out) | (with_reducible refine Kd.C_alloc ?_ _) | (with_reducible refine Kd.C_drewN ?_ _) | (with_reducible refine Kd.C_drew ?_))); (case side2 => exact HC0_0.out); rintro e w20 ⟨rfl, hb⟩; refine ⟨_, rfl, ?_⟩; have n0_ := Aside0.mk (blk_below (g := gb457) (o := .cells #[.slice A0_0 l0_0.length c0_0, .int .i64 a0_1] 66 (0, 0)) (by (with_reducible repeat (first | refine blk_drewN ?_ _ | refine blk_drew ?_ | refine blk_alloc ?_ _)); exact BK457.out) hb); have n1_ := Aside0.mk (blk_below (g := gb458) (o := .cells #[.slice none 0 0, .int .i64 0] 66 (0, 0)) (by (with_reducible repeat (first | refine blk_drewN ?_ _ | refine blk_drew ?_ | refine blk_alloc ?_ _)); exact BK458.out) hb); have n2_ := Aside0.mk (below_step (by repeat (first | (with_reducible first | exact HB.out | apply below_alloc | apply pw_below_drewN | apply below_drew1 | refine below_set ?_ GE457.out | refine below_set ?_ GE458.out) | exact HB.out)) hb); clear BK457; clear BK458; clear HB; have BK457 := n0_; have BK458 := n1_; have HB := n2_; clear n0_ n1_ n2_; (try clear hb); (try clear hb2); (try clear hk); (try clear hi); have hcz21_0 : w20.cell? ⟨gb457, 0, none⟩ = some (.slice A0_0 l0_0.length c0_0) := (blk_cell BK457.out 0).trans rfl; have hcz21_1 : w20.cell? ⟨gb457, 1, none⟩ = some (.int .i64 a0_1) := (blk_cell BK457.out 1).trans rfl; have hfz21_0 := blk_frozen BK457.out 0; have hfz21_1 := blk_frozen BK457.out 1) | ((with_reducible refine gate_callee (f := 83) rfl ?_); refine goesL_ (some 15) rfl rfl Try.func83 (by kernel_rfl) rfl #[.agg #[.slice A0_0 l0_0.length c0_0, .int .i64 a0_1], .int .i64 a1] rfl (by (try simp only [List.map_toArray, List.map_cons, List.map_nil]); first | done | rfl | (simp only [List.length_drop, List.length_take]; rfl)) ?_; (with_reducible refine (weftlineref14_find.calls k _ _ l0_0 a0_1 a1 t460 _ ?side1 ?side2 A5.out).mono ?_); (case side1 => repeat (first | exact (Kd.C_below HR0_0.out HB.out) | (with_reducible refine Kd.C_alloc ?_ _) | (with_reducible refine Kd.C_drewN ?_ _) | (with_reducible refine Kd.C_drew ?_))); (case side2 => exact HC0_0.out); rintro e w22 ⟨rfl, hb⟩; refine ⟨_, rfl, ?_⟩; have n0_ := Aside0.mk (blk_below (g := gb457) (o := .cells #[.slice A0_0 l0_0.length c0_0, .int .i64 a0_1] 66 (0, 0)) (by (with_reducible repeat (first | refine blk_drewN ?_ _ | refine blk_drew ?_ | refine blk_alloc ?_ _)); exact BK457.out) hb); have n1_ := Aside0.mk (blk_below (g := gb458) (o := .cells #[.slice none 0 0, .int .i64 0] 66 (0, 0)) (by (with_reducible repeat (first | refine blk_drewN ?_ _ | refine blk_drew ?_ | refine blk_alloc ?_ _)); exact BK458.out) hb); have n2_ := Aside0.mk (below_step (by repeat (first | (with_reducible first | exact HB.out | apply below_alloc | apply pw_below_drewN | apply below_drew1 | refine below_set ?_ GE457.out | refine below_set ?_ GE458.out) | exact HB.out)) hb); clear BK457; clear BK458; clear HB; have BK457 := n0_; have BK458 := n1_; have HB := n2_; clear n0_ n1_ n2_; (try clear hb); (try clear hb2); (try clear hk); (try clear hi); have hcz23_0 : w22.cell? ⟨gb457, 0, none⟩ = some (.slice A0_0 l0_0.length c0_0) := (blk_cell BK457.out 0).trans rfl; have hcz23_1 : w22.cell? ⟨gb457, 1, none⟩ = some (.int .i64 a0_1) := (blk_cell BK457.out 1).trans rfl; have hfz23_0 := blk_frozen BK457.out 0; have hfz23_1 := blk_frozen BK457.out 1; have hcz24_0 : w22.cell? ⟨gb458, 0, none⟩ = some (.slice none 0 0) := (blk_cell BK458.out 0).trans rfl; have hcz24_1 : w22.cell? ⟨gb458, 1, none⟩ = some (.int .i64 0) := (blk_cell BK458.out 1).trans rfl; have hfz24_0 := blk_frozen BK458.out 0; have hfz24_1 := blk_frozen BK458.out 1))
        refine bodyPost_ret (results_ct rfl _ _ gb458 66 #[.slice none 0 0, .int .i64 0] (0, 0) _ rfl (by (with_reducible repeat (first | refine blk_drewN ?_ _ | refine blk_drew ?_ | refine blk_alloc ?_ _)); refine blk_put (cs := #[.slice none 0 0, .int .i64 0]) ?_ 1 _ rfl; (with_reducible repeat (first | refine blk_drewN ?_ _ | refine blk_drew ?_ | refine blk_alloc ?_ _)); refine blk_put (cs := #[.slice none 0 0, .int .i64 0]) ?_ 0 _ rfl; (with_reducible repeat (first | refine blk_drewN ?_ _ | refine blk_drew ?_ | refine blk_alloc ?_ _)); exact BK458.out) Try.underlying66 rfl (by kernel_rfl)) rfl ?_
        exact ⟨_, by first | rfl | (simp [errW_none, errW_some] <;> rfl) | (simp [*, errW_none, errW_some] <;> rfl), by first | exact Kd.R_nil _ _ _ _ _ | exact Kd.N_nil _ _ _ _ _ | exact Kd.V_nil _ _ _ _ _ | exact Kd.Q_nil _ _ _ _ _ | exact Kd.S_nil _ _ _ _ _, by repeat (first | (with_reducible first | exact HB.out | apply below_alloc | apply pw_below_drewN | apply below_drew1 | refine below_set ?_ GE457.out | refine below_set ?_ GE458.out) | exact HB.out)⟩
      · rw [if_neg c15] at H
        have c15b0 : ((l0_0.length : Int) == 1) = false := beq_eq_false_iff_ne.mpr c15
        have c15b1 : ((l0_0.length : Int) != 1) = true := bne_iff_ne.mpr c15
        have H' := Aside0.mk H
        clear H
        go_enter Try.func59, Try.ntmps59
        go_wp2_with (first | ((with_reducible refine gate_dst (N := 2) rfl ?_); refine box_event ?hg (N := 2) ?hd (cs := #[.slice A0_0 l0_0.length c0_0, .int .i64 a0_1]) (t := 66) ?hr ?_; (case hd => rfl); (case hg => rfl); (case hr => first | (go_simp; done) | (go_simp; rfl)); intro gb457 hg w25 hbox hb; have n0_ := Aside0.mk (below_step (by repeat (first | (with_reducible first | exact HB.out | apply below_alloc | apply pw_below_drewN | apply below_drew1) | exact HB.out)) hb); have n1_ := Aside0.mk (hbox); have n2_ := Aside0.mk ((by rw [hg]; exact (below_size (by repeat (first | (with_reducible first | exact HB.out | apply below_alloc | apply pw_below_drewN | apply below_drew1) | exact HB.out))) : w.heap.size ≤ gb457)); have n3_ := Aside0.mk ((by rw [hg]; exact (below_size (by repeat (first | (with_reducible first | exact HB.out | apply below_alloc | apply pw_below_drewN | apply below_drew1) | exact HB.out))) : w.heap.size ≤ gb457)); clear HB; have HB := n0_; have BK457 := n1_; have GW457 := n2_; have GE457 := n3_; clear n0_ n1_ n2_ n3_; clear hb hbox hg) | ((with_reducible refine gate_dst (N := 4) rfl ?_); refine box_event ?hg (N := 4) ?hd (cs := #[.slice none 0 0, .int .i64 0]) (t := 66) ?hr ?_; (case hd => rfl); (case hg => rfl); (case hr => first | (go_simp; done) | (go_simp; rfl)); intro gb458 hg w26 hbox hb; have n0_ := Aside0.mk (blk_below (g := gb457) (o := .cells #[.slice A0_0 l0_0.length c0_0, .int .i64 a0_1] 66 (0, 0)) (by (with_reducible repeat (first | refine blk_drewN ?_ _ | refine blk_drew ?_ | refine blk_alloc ?_ _)); exact BK457.out) hb); have n1_ := Aside0.mk (below_step (by repeat (first | (with_reducible first | exact HB.out | apply below_alloc | apply pw_below_drewN | apply below_drew1 | refine below_set ?_ GE457.out) | exact HB.out)) hb); have n2_ := Aside0.mk (hbox); have n3_ := Aside0.mk ((by rw [hg]; exact (below_size (by repeat (first | (with_reducible first | exact HB.out | apply below_alloc | apply pw_below_drewN | apply below_drew1 | refine below_set ?_ GE457.out) | exact HB.out))) : w.heap.size ≤ gb458)); have n4_ := Aside0.mk ((by rw [hg]; exact (below_size (by repeat (first | (with_reducible first | exact HB.out | apply below_alloc | apply pw_below_drewN | apply below_drew1 | refine below_set ?_ GE457.out) | exact HB.out))) : w.heap.size ≤ gb458)); have n5_ := Aside0.mk ((by rw [hg]; exact Nat.ne_of_lt (blk_lt (g := gb457) (o := .cells #[.slice A0_0 l0_0.length c0_0, .int .i64 a0_1] 66 (0, 0)) (by (with_reducible repeat (first | refine blk_drewN ?_ _ | refine blk_drew ?_ | refine blk_alloc ?_ _)); exact BK457.out)) : gb457 ≠ gb458)); have n6_ := Aside0.mk ((by rw [hg]; exact Nat.ne_of_gt (blk_lt (g := gb457) (o := .cells #[.slice A0_0 l0_0.length c0_0, .int .i64 a0_1] 66 (0, 0)) (by (with_reducible repeat (first | refine blk_drewN ?_ _ | refine blk_drew ?_ | refine blk_alloc ?_ _)); exact BK457.out)) : gb458 ≠ gb457)); clear BK457; clear HB; have BK457 := n0_; have HB := n1_; have BK458 := n2_; have GW458 := n3_; have GE458 := n4_; have NB457_458 := n5_; have NB458_457 := n6_; clear n0_ n1_ n2_ n3_ n4_ n5_ n6_; clear hb hbox hg; have hnb27 := NB457_458.out; have hnc27 := NB458_457.out; have hcz28_0 : w26.cell? ⟨gb457, 0, none⟩ = some (.slice A0_0 l0_0.length c0_0) := (blk_cell BK457.out 0).trans rfl; have hcz28_1 : w26.cell? ⟨gb457, 1, none⟩ = some (.int .i64 a0_1) := (blk_cell BK457.out 1).trans rfl; have hfz28_0 := blk_frozen BK457.out 0; have hfz28_1 := blk_frozen BK457.out 1) | ((with_reducible refine gate_callee (f := 53) rfl ?_); refine goesL_ (some 10) rfl rfl Try.func53 (by kernel_rfl) rfl #[.agg #[.slice A0_0 l0_0.length c0_0, .int .i64 a0_1]] rfl (by (try simp only [List.map_toArray, List.map_cons, List.map_nil]); first | done | rfl | (simp only [List.length_drop, List.length_take]; rfl)) ?_; (with_reducible refine (weftlineref14_Good.calls k _ _ l0_0 a0_1 true _ ?side1 ?side2 A3.out).mono ?_); (case side1 => repeat (first | exact (Kd.C_below HR0_0.out HB.out) | (with_reducible refine Kd.C_alloc ?_ _) | (with_reducible refine Kd.C_drewN ?_ _) | (with_reducible refine Kd.C_drew ?_))); (case side2 => exact HC0_0.out); rintro e w29 ⟨rfl, hb⟩; refine ⟨_, rfl, ?_⟩; have n0_ := Aside0.mk (blk_below (g := gb457) (o := .cells #[.slice A0_0 l0_0.length c0_0, .int .i64 a0_1] 66 (0, 0)) (by (with_reducible repeat (first | refine blk_drewN ?_ _ | refine blk_drew ?_ | refine blk_alloc ?_ _)); exact BK457.out) hb); have n1_ := Aside0.mk (blk_below (g := gb458) (o := .cells #[.slice none 0 0, .int .i64 0] 66 (0, 0)) (by (with_reducible repeat (first | refine blk_drewN ?_ _ | refine blk_drew ?_ | refine blk_alloc ?_ _)); exact BK458.out) hb); have n2_ := Aside0.mk (below_step (by repeat (first | (with_reducible first | exact HB.out | apply below_alloc | apply pw_below_drewN | apply below_drew1 | refine below_set ?_ GE457.out | refine below_set ?_ GE458.out) | exact HB.out)) hb); clear BK457; clear BK458; clear HB; have BK457 := n0_; have BK458 := n1_; have HB := n2_; clear n0_ n1_ n2_; (try clear hb); (try clear hb2); (try clear hk); (try clear hi); have hcz30_0 : w29.cell? ⟨gb457, 0, none⟩ = some (.slice A0_0 l0_0.length c0_0) := (blk_cell BK457.out 0).trans rfl; have hcz30_1 : w29.cell? ⟨gb457, 1, none⟩ = some (.int .i64 a0_1) := (blk_cell BK457.out 1).trans rfl; have hfz30_0 := blk_frozen BK457.out 0; have hfz30_1 := blk_frozen BK457.out 1) | ((with_reducible refine gate_callee (f := 83) rfl ?_); refine goesL_ (some 15) rfl rfl Try.func83 (by kernel_rfl) rfl #[.agg #[.slice A0_0 l0_0.length c0_0, .int .i64 a0_1], .int .i64 a1] rfl (by (try simp only [List.map_toArray, List.map_cons, List.map_nil]); first | done | rfl | (simp only [List.length_drop, List.length_take]; rfl)) ?_; (with_reducible refine (weftlineref14_find.calls k _ _ l0_0 a0_1 a1 t460 _ ?side1 ?side2 A5.out).mono ?_); (case side1 => repeat (first | exact (Kd.C_below HR0_0.out HB.out) | (with_reducible refine Kd.C_alloc ?_ _) | (with_reducible refine Kd.C_drewN ?_ _) | (with_reducible refine Kd.C_drew ?_))); (case side2 => exact HC0_0.out); rintro e w31 ⟨rfl, hb⟩; refine ⟨_, rfl, ?_⟩; have n0_ := Aside0.mk (blk_below (g := gb457) (o := .cells #[.slice A0_0 l0_0.length c0_0, .int .i64 a0_1] 66 (0, 0)) (by (with_reducible repeat (first | refine blk_drewN ?_ _ | refine blk_drew ?_ | refine blk_alloc ?_ _)); exact BK457.out) hb); have n1_ := Aside0.mk (blk_below (g := gb458) (o := .cells #[.slice none 0 0, .int .i64 0] 66 (0, 0)) (by (with_reducible repeat (first | refine blk_drewN ?_ _ | refine blk_drew ?_ | refine blk_alloc ?_ _)); exact BK458.out) hb); have n2_ := Aside0.mk (below_step (by repeat (first | (with_reducible first | exact HB.out | apply below_alloc | apply pw_below_drewN | apply below_drew1 | refine below_set ?_ GE457.out | refine below_set ?_ GE458.out) | exact HB.out)) hb); clear BK457; clear BK458; clear HB; have BK457 := n0_; have BK458 := n1_; have HB := n2_; clear n0_ n1_ n2_; (try clear hb); (try clear hb2); (try clear hk); (try clear hi); have hcz32_0 : w31.cell? ⟨gb457, 0, none⟩ = some (.slice A0_0 l0_0.length c0_0) := (blk_cell BK457.out 0).trans rfl; have hcz32_1 : w31.cell? ⟨gb457, 1, none⟩ = some (.int .i64 a0_1) := (blk_cell BK457.out 1).trans rfl; have hfz32_0 := blk_frozen BK457.out 0; have hfz32_1 := blk_frozen BK457.out 1) | ((with_reducible refine gate_dst (N := 7) rfl ?_); refine box_event ?hg (N := 7) ?hd (cs := #[.slice none 0 0, .int .i64 0]) (t := 66) ?hr ?_; (case hd => rfl); (case hg => rfl); (case hr => first | (go_simp; done) | (go_simp; rfl)); intro gb461 hg w33 hbox hb; have n0_ := Aside0.mk (blk_below (g := gb457) (o := .cells #[.slice A0_0 l0_0.length c0_0, .int .i64 a0_1] 66 (0, 0)) (by (with_reducible repeat (first | refine blk_drewN ?_ _ | refine blk_drew ?_ | refine blk_alloc ?_ _)); exact BK457.out) hb); have n1_ := Aside0.mk (blk_below (g := gb458) (o := .cells #[.slice none 0 0, .int .i64 0] 66 (0, 0)) (by (with_reducible repeat (first | refine blk_drewN ?_ _ | refine blk_drew ?_ | refine blk_alloc ?_ _)); exact BK458.out) hb); have n2_ := Aside0.mk (below_step (by repeat (first | (with_reducible first | exact HB.out | apply below_alloc | apply pw_below_drewN | apply below_drew1 | refine below_set ?_ GE457.out | refine below_set ?_ GE458.out) | exact HB.out)) hb); have n3_ := Aside0.mk (hbox); have n4_ := Aside0.mk ((by rw [hg]; exact (below_size (by repeat (first | (with_reducible first | exact HB.out | apply below_alloc | apply pw_below_drewN | apply below_drew1 | refine below_set ?_ GE457.out | refine below_set ?_ GE458.out) | exact HB.out))) : w.heap.size ≤ gb461)); have n5_ := Aside0.mk ((by rw [hg]; exact (below_size (by repeat (first | (with_reducible first | exact HB.out | apply below_alloc | apply pw_below_drewN | apply below_drew1 | refine below_set ?_ GE457.out | refine below_set ?_ GE458.out) | exact HB.out))) : w.heap.size ≤ gb461)); have n6_ := Aside0.mk ((by rw [hg]; exact Nat.ne_of_lt (blk_lt (g := gb457) (o := .cells #[.slice A0_0 l0_0.length c0_0, .int .i64 a0_1] 66 (0, 0)) (by (with_reducible repeat (first | refine blk_drewN ?_ _ | refine blk_drew ?_ | refine blk_alloc ?_ _)); exact BK457.out)) : gb457 ≠ gb461)); have n7_ := Aside0.mk ((by rw [hg]; exact Nat.ne_of_gt (blk_lt (g := gb457) (o := .cells #[.slice A0_0 l0_0.length c0_0, .int .i64 a0_1] 66 (0, 0)) (by (with_reducible repeat (first | refine blk_drewN ?_ _ | refine blk_drew ?_ | refine blk_alloc ?_ _)); exact BK457.out)) : gb461 ≠ gb457)); have n8_ := Aside0.mk ((by rw [hg]; exact Nat.ne_of_lt (blk_lt (g := gb458) (o := .cells #[.slice none 0 0, .int .i64 0] 66 (0, 0)) (by (with_reducible repeat (first | refine blk_drewN ?_ _ | refine blk_drew ?_ | refine blk_alloc ?_ _)); exact BK458.out)) : gb458 ≠ gb461)); have n9_ := Aside0.mk ((by rw [hg]; exact Nat.ne_of_gt (blk_lt (g := gb458) (o := .cells #[.slice none 0 0, .int .i64 0] 66 (0, 0)) (by (with_reducible repeat (first | refine blk_drewN ?_ _ | refine blk_drew ?_ | refine blk_alloc ?_ _)); exact BK458.out)) : gb461 ≠ gb458)); clear BK457; clear BK458; clear HB; have BK457 := n0_; have BK458 := n1_; have HB := n2_; have BK461 := n3_; have GW461 := n4_; have GE461 := n5_; have NB457_461 := n6_; have NB461_457 := n7_; have NB458_461 := n8_; have NB461_458 := n9_; clear n0_ n1_ n2_ n3_ n4_ n5_ n6_ n7_ n8_ n9_; clear hb hbox hg; have hnb34 := NB461_457.out; have hnc34 := NB457_461.out; have hnb35 := NB461_458.out; have hnc35 := NB458_461.out; have hcz36_0 : w33.cell? ⟨gb461, 0, none⟩ = some (.slice none 0 0) := (blk_cell BK461.out 0).trans rfl; have hcz36_1 : w33.cell? ⟨gb461, 1, none⟩ = some (.int .i64 0) := (blk_cell BK461.out 1).trans rfl; have hfz36_0 := blk_frozen BK461.out 0; have hfz36_1 := blk_frozen BK461.out 1))
        go_loopg [8] k (fun kq v8 w' => ∃ (x8_1 : Int) (x462000_1 : List (S29)) (x462001_1 : Int) (u462000 : Value), v8 = .int .i64 x8_1 ∧ Aside0 (weftlineref14_Delete.l0 kq t460 x8_1 l0_0 a0_1 x462000_1 x462001_1 = some (r1, r2, r3)) ∧ Aside0 (kq ≤ k) ∧ Aside0 (Kd.R k29 29 w' w.heap.size (fun _ => True) u462000 x462000_1) ∧ Aside0 (w'.heap[gb457]? = some (.cells #[(.slice A0_0 l0_0.length c0_0), .int .i64 a0_1] 66 (0, 0))) ∧ Aside0 (w'.heap[gb458]? = some (.cells #[(.slice none 0 0), .int .i64 0] 66 (0, 0))) ∧ Aside0 (w'.heap[gb461]? = some (.cells #[u462000, .int .i64 x462001_1] 66 (0, 0))) ∧ Aside0 (Below w.heap.size w w'))
        case atStart => exact ⟨(0), (([] : List (S29))), (0), (.slice none 0 0), (by first | rfl | (simp; done) | (simp [*]; done)), H', ⟨Nat.le_refl _⟩, ⟨by first | exact Kd.R_nil _ _ _ _ _ | exact Kd.N_nil _ _ _ _ _ | exact Kd.V_nil _ _ _ _ _ | exact Kd.Q_nil _ _ _ _ _ | exact Kd.S_nil _ _ _ _ _⟩, ⟨by (with_reducible repeat (first | refine blk_drewN ?_ _ | refine blk_drew ?_ | refine blk_alloc ?_ _)); refine blk_far ?_ NB457_461.out _; (with_reducible repeat (first | refine blk_drewN ?_ _ | refine blk_drew ?_ | refine blk_alloc ?_ _)); refine blk_far ?_ NB457_461.out _; (with_reducible repeat (first | refine blk_drewN ?_ _ | refine blk_drew ?_ | refine blk_alloc ?_ _)); exact BK457.out⟩, ⟨by (with_reducible repeat (first | refine blk_drewN ?_ _ | refine blk_drew ?_ | refine blk_alloc ?_ _)); refine blk_far ?_ NB458_461.out _; (with_reducible repeat (first | refine blk_drewN ?_ _ | refine blk_drew ?_ | refine blk_alloc ?_ _)); refine blk_far ?_ NB458_461.out _; (with_reducible repeat (first | refine blk_drewN ?_ _ | refine blk_drew ?_ | refine blk_alloc ?_ _)); exact BK458.out⟩, ⟨by (with_reducible repeat (first | refine blk_drewN ?_ _ | refine blk_drew ?_ | refine blk_alloc ?_ _)); refine blk_put (cs := #[.slice none 0 0, .int .i64 0]) ?_ 1 _ rfl; (with_reducible repeat (first | refine blk_drewN ?_ _ | refine blk_drew ?_ | refine blk_alloc ?_ _)); refine blk_put (cs := #[.slice none 0 0, .int .i64 0]) ?_ 0 _ rfl; (with_reducible repeat (first | refine blk_drewN ?_ _ | refine blk_drew ?_ | refine blk_alloc ?_ _)); exact BK461.out⟩, ⟨by repeat (first | (with_reducible first | exact HB.out | apply below_alloc | apply pw_below_drewN | apply below_drew1 | refine below_set ?_ GE457.out | refine below_set ?_ GE458.out | refine below_set ?_ GE461.out) | exact HB.out)⟩⟩
        case round =>
          clear H'
          try clear c1
          try clear c2
          try clear p2
          try clear c3
          try clear c4
          try clear c5
          try clear c6
          try clear c6b0
          try clear c8
          try clear c9
          try clear c15
          try clear c15b0
          try clear c15b1
          try clear c18
          try clear c27
          try clear c34
          try clear c35
          try clear hcz10_0
          try clear hcz10_1
          try clear hcz12_0
          try clear hcz12_1
          try clear hcz14_0
          try clear hcz14_1
          try clear hcz19_0
          try clear hcz19_1
          try clear hcz21_0
          try clear hcz21_1
          try clear hcz23_0
          try clear hcz23_1
          try clear hcz24_0
          try clear hcz24_1
          try clear hcz28_0
          try clear hcz28_1
          try clear hcz30_0
          try clear hcz30_1
          try clear hcz32_0
          try clear hcz32_1
          try clear hcz36_0
          try clear hcz36_1
          try clear hfz10_0
          try clear hfz10_1
          try clear hfz12_0
          try clear hfz12_1
          try clear hfz14_0
          try clear hfz14_1
          try clear hfz19_0
          try clear hfz19_1
          try clear hfz21_0
          try clear hfz21_1
          try clear hfz23_0
          try clear hfz23_1
          try clear hfz24_0
          try clear hfz24_1
          try clear hfz28_0
          try clear hfz28_1
          try clear hfz30_0
          try clear hfz30_1
          try clear hfz32_0
          try clear hfz32_1
          try clear hfz36_0
          try clear hfz36_1
          obtain ⟨x8_1, x462000_1, x462001_1, u462000, rfl, HA, HK1, HO_462000, BK457, BK458, BK461, HB⟩ := hrel
          cases gk with
          | zero => exact absurd HA.out (by simp [weftlineref14_Delete.l0])
          | succ k1 =>
            have H := HA.out
            clear HA
            simp only [weftlineref14_Delete.l0] at H
            by_cases c37 : x8_1 < (l0_0.length : Int)
            · rw [if_pos c37] at H
              have c37b0 : decide (x8_1 < (l0_0.length : Int)) = true := decide_eq_true c37
              clear c37
              by_cases c38 : x8_1 = t460
              · rw [if_pos c38] at H
                have c38b0 : (x8_1 == t460) = true := beq_iff_eq.mpr c38
                have c38b1 : (x8_1 != t460) = false := bne_eq_false_iff_eq.mpr c38
                clear c38
                have H' := Aside0.mk H
                clear H
                have hnb39 := NB457_458.out
                have hnc39 := NB458_457.out
                have hnb40 := NB457_461.out
                have hnc40 := NB461_457.out
                have hcz41_0 : wr.cell? ⟨gb457, 0, none⟩ = some (.slice A0_0 l0_0.length c0_0) := (blk_cell BK457.out 0).trans rfl
                have hcz41_1 : wr.cell? ⟨gb457, 1, none⟩ = some (.int .i64 a0_1) := (blk_cell BK457.out 1).trans rfl
                have hfz41_0 := blk_frozen BK457.out 0
                have hfz41_1 := blk_frozen BK457.out 1
                go_wp2
                go_roundg k1
                case measure => have := HK1.out; omega
                case rel => exact ⟨(wrap64 (x8_1 + 1)), (x462000_1), (x462001_1), (u462000), (by first | rfl | (simp; done) | (simp [*]; done)), H', ⟨by have := HK1.out; omega⟩, ⟨by (with_reducible repeat (first | apply Kd.R_alloc | apply Kd.R_drewN | apply Kd.R_drew)); exact HO_462000.out⟩, ⟨by (with_reducible repeat (first | refine blk_drewN ?_ _ | refine blk_drew ?_ | refine blk_alloc ?_ _)); exact BK457.out⟩, ⟨by (with_reducible repeat (first | refine blk_drewN ?_ _ | refine blk_drew ?_ | refine blk_alloc ?_ _)); exact BK458.out⟩, ⟨by (with_reducible repeat (first | refine blk_drewN ?_ _ | refine blk_drew ?_ | refine blk_alloc ?_ _)); exact BK461.out⟩, ⟨by repeat (first | (with_reducible first | exact HB.out | apply below_alloc | apply pw_below_drewN | apply below_drew1 | refine below_set ?_ GE457.out | refine below_set ?_ GE458.out | refine below_set ?_ GE461.out) | exact HB.out)⟩⟩
              · rw [if_neg c38] at H
                have c38b0 : (x8_1 == t460) = false := beq_eq_false_iff_ne.mpr c38
                have c38b1 : (x8_1 != t460) = true := bne_iff_ne.mpr c38
                by_cases c42 : x8_1 = a0_1
                · rw [if_pos c42] at H
                  have c42b0 : (x8_1 == a0_1) = true := beq_iff_eq.mpr c42
                  have c42b1 : (x8_1 != a0_1) = false := bne_eq_false_iff_eq.mpr c42
                  clear c42
                  by_cases c43 : 0 ≤ x8_1
                  · rw [if_pos c43] at H
                    have c43b0 : decide (0 ≤ x8_1) = true := decide_eq_true c43
                    clear c43
                    by_cases c44 : x462000_1.length < 1599289640401
                    · rw [if_pos c44] at H
                      have LMc44 := Aside0.mk c44
                      clear c44
                      obtain ⟨y463, hy463⟩ : ∃ y_ : List (S29), y_ = (x462000_1 ++ [(⟨(⟨(rd_T29 l0_0 x8_1).f0.f0, (rd_T29 l0_0 x8_1).f0.f1, (rd_T29 l0_0 x8_1).f0.f2, (rd_T29 l0_0 x8_1).f0.f3⟩ : S23), (⟨(rd_T29 l0_0 x8_1).f1.f0, (rd_T29 l0_0 x8_1).f1.f1, (rd_T29 l0_0 x8_1).f1.f2⟩ : S25), (rd_T29 l0_0 x8_1).f2, (rd_T29 l0_0 x8_1).f3, (rd_T29 l0_0 x8_1).f4, (rd_T29 l0_0 x8_1).f5⟩ : S29)]) := ⟨_, rfl⟩
                      replace H : (weftlineref14_Delete.l0 k1 t460 (wrap64 (x8_1 + 1)) l0_0 a0_1 y463 (x462000_1.length : Int)) = some (r1, r2, r3) := by first | (rw [hy463]; with_reducible exact H) | (have H2_ := (Option.bind_some _ _).symm.trans H; rw [hy463]; with_reducible exact H2_) | (have H2_ := (Option.bind_some _ _).symm.trans H; with_reducible exact H2_) | with_reducible exact H | (rw [hy463]; exact H) | exact H
                      have Ny463 := Aside0.mk hy463
                      clear hy463
                      have H' := Aside0.mk H
                      clear H
                      have hnb45 := NB457_458.out
                      have hnc45 := NB458_457.out
                      have hnb46 := NB457_461.out
                      have hnc46 := NB461_457.out
                      have hcz47_0 : wr.cell? ⟨gb457, 0, none⟩ = some (.slice A0_0 l0_0.length c0_0) := (blk_cell BK457.out 0).trans rfl
                      have hcz47_1 : wr.cell? ⟨gb457, 1, none⟩ = some (.int .i64 a0_1) := (blk_cell BK457.out 1).trans rfl
                      have hfz47_0 := blk_frozen BK457.out 0
                      have hfz47_1 := blk_frozen BK457.out 1
                      have hnb48 := NB461_458.out
                      have hnc48 := NB458_461.out
                      have hcz49_0 : wr.cell? ⟨gb461, 0, none⟩ = some (u462000) := (blk_cell BK461.out 0).trans rfl
                      have hcz49_1 : wr.cell? ⟨gb461, 1, none⟩ = some (.int .i64 x462001_1) := (blk_cell BK461.out 1).trans rfl
                      have hfz49_0 := blk_frozen BK461.out 0
                      have hfz49_1 := blk_frozen BK461.out 1
                      obtain ⟨Ao50, co50, eo50⟩ := Kd.R_slice HO_462000.out
                      subst eo50
                      try go_wp2
                      have n0_ : Aside0 (Kd.R k29 29 (wr.setCell ⟨gb461, 1, none⟩ (.int .i64 (x462000_1.length : Int))) w.heap.size (fun _ => True) (.slice Ao50 x462000_1.length co50) x462000_1) := ⟨by (with_reducible repeat (first | apply Kd.R_alloc | apply Kd.R_drewN | apply Kd.R_drew)); exact Kd.R_mono (Kd.R_far (p := ⟨gb461, 1, none⟩) (Kd.R_types HO_462000.out BK461.out (by decide)) (fun _ hk => hk.2) (.int .i64 (x462000_1.length : Int))) (fun _ hk => trivial)⟩
                      have n1_ : Aside0 ((wr.setCell ⟨gb461, 1, none⟩ (.int .i64 (x462000_1.length : Int))).heap[gb457]? = some (.cells #[.slice A0_0 l0_0.length c0_0, .int .i64 a0_1] 66 (0, 0))) := ⟨by (with_reducible repeat (first | refine blk_drewN ?_ _ | refine blk_drew ?_ | refine blk_alloc ?_ _)); refine blk_far ?_ NB457_461.out _; (with_reducible repeat (first | refine blk_drewN ?_ _ | refine blk_drew ?_ | refine blk_alloc ?_ _)); exact BK457.out⟩
                      have n2_ : Aside0 ((wr.setCell ⟨gb461, 1, none⟩ (.int .i64 (x462000_1.length : Int))).heap[gb458]? = some (.cells #[.slice none 0 0, .int .i64 0] 66 (0, 0))) := ⟨by (with_reducible repeat (first | refine blk_drewN ?_ _ | refine blk_drew ?_ | refine blk_alloc ?_ _)); refine blk_far ?_ NB458_461.out _; (with_reducible repeat (first | refine blk_drewN ?_ _ | refine blk_drew ?_ | refine blk_alloc ?_ _)); exact BK458.out⟩
                      have n3_ : Aside0 ((wr.setCell ⟨gb461, 1, none⟩ (.int .i64 (x462000_1.length : Int))).heap[gb461]? = some (.cells #[.slice Ao50 x462000_1.length co50, .int .i64 (x462000_1.length : Int)] 66 (0, 0))) := ⟨by (with_reducible repeat (first | refine blk_drewN ?_ _ | refine blk_drew ?_ | refine blk_alloc ?_ _)); refine blk_put (cs := #[.slice Ao50 x462000_1.length co50, .int .i64 x462001_1]) ?_ 1 _ rfl; (with_reducible repeat (first | refine blk_drewN ?_ _ | refine blk_drew ?_ | refine blk_alloc ?_ _)); exact BK461.out⟩
                      have n4_ : Aside0 (Below w.heap.size w (wr.setCell ⟨gb461, 1, none⟩ (.int .i64 (x462000_1.length : Int)))) := ⟨by repeat (first | (with_reducible first | exact HB.out | apply below_alloc | apply pw_below_drewN | apply below_drew1 | refine below_set ?_ GE457.out | refine below_set ?_ GE458.out | refine below_set ?_ GE461.out) | exact HB.out)⟩
                      (try clear HO_462000)
                      (try clear BK457)
                      (try clear BK458)
                      (try clear BK461)
                      (try clear HB)
                      generalize (wr.setCell ⟨gb461, 1, none⟩ (.int .i64 (x462000_1.length : Int))) = w51 at n0_ n1_ n2_ n3_ n4_ ⊢
                      have HO_462000 := n0_
                      have BK457 := n1_
                      have BK458 := n2_
                      have BK461 := n3_
                      have HB := n4_
                      clear n0_ n1_ n2_ n3_ n4_
                      have n0_ := Aside0.mk (Kd.R_drew HO_462000.out)
                      have n1_ := Aside0.mk (blk_drew BK457.out)
                      have n2_ := Aside0.mk (blk_drew BK458.out)
                      have n3_ := Aside0.mk (blk_drew BK461.out)
                      have n4_ := Aside0.mk (below_drew1 HB.out)
                      clear HO_462000
                      clear BK457
                      clear BK458
                      clear BK461
                      clear HB
                      have HO_462000 := n0_
                      have BK457 := n1_
                      have BK458 := n2_
                      have BK461 := n3_
                      have HB := n4_
                      clear n0_ n1_ n2_ n3_ n4_
                      have p462 : 0 ≤ (x8_1 : Int) := of_decide_eq_true (by first | (with_reducible assumption) | assumption)
                      have q462 : x8_1 < (l0_0.length : Int) := of_decide_eq_true (by first | (with_reducible assumption) | assumption)
                      obtain ⟨ad462, e462, hx462_0, hx462_1, hx462_2, hx462_3, hx462_4, hx462_5, hx462_6, hx462_7, hx462_8, hx462_9, hx462_10⟩ := at_T29 HR0_0.out x8_1 p462 q462
                      have hw462_10 := hx462_10
                      have hw462_9 := hx462_9
                      have hw462_8 := hx462_8
                      have hw462_7 := hx462_7
                      have hw462_6 := hx462_6
                      have hw462_5 := hx462_5
                      have hw462_4 := hx462_4
                      have hw462_3 := hx462_3
                      have hw462_2 := hx462_2
                      have hw462_1 := hx462_1
                      have hw462_0 := hx462_0
                      cases e462
                      replace hx462_0 := (HB.out.cell (World.block_lt_of_cell? w _ hx462_0)).trans hx462_0
                      replace hx462_1 := (HB.out.cell (World.block_lt_of_cell? w _ hx462_1)).trans hx462_1
                      replace hx462_2 := (HB.out.cell (World.block_lt_of_cell? w _ hx462_2)).trans hx462_2
                      replace hx462_3 := (HB.out.cell (World.block_lt_of_cell? w _ hx462_3)).trans hx462_3
                      replace hx462_4 := (HB.out.cell (World.block_lt_of_cell? w _ hx462_4)).trans hx462_4
                      replace hx462_5 := (HB.out.cell (World.block_lt_of_cell? w _ hx462_5)).trans hx462_5
                      replace hx462_6 := (HB.out.cell (World.block_lt_of_cell? w _ hx462_6)).trans hx462_6
                      replace hx462_7 := (HB.out.cell (World.block_lt_of_cell? w _ hx462_7)).trans hx462_7
                      replace hx462_8 := (HB.out.cell (World.block_lt_of_cell? w _ hx462_8)).trans hx462_8
                      replace hx462_9 := (HB.out.cell (World.block_lt_of_cell? w _ hx462_9)).trans hx462_9
                      replace hx462_10 := (HB.out.cell (World.block_lt_of_cell? w _ hx462_10)).trans hx462_10
                      replace p462 := eq_true p462
                      replace q462 := eq_true q462
                      refine start_ (n := 11) (S := fun w' => w'.cell? ⟨gb461, 0, none⟩ = some (.slice Ao50 x462000_1.length co50) ∧ w'.cell? ⟨gb461, 1, none⟩ = some (.int .i64 (x462000_1.length : Int)) ∧ w'.cell? ⟨gb457, 0, none⟩ = some (.slice (some ad462) l0_0.length c0_0) ∧ w'.cell? ⟨gb457, 1, none⟩ = some (.int .i64 a0_1) ∧ w'.cell? (ad462.add ((x8_1).toNat * 11)) = some (.int .i64 ((rd_T29 l0_0 x8_1).f0.f0)) ∧ w'.cell? ⟨(ad462.add ((x8_1).toNat * 11)).block, (ad462.add ((x8_1).toNat * 11)).off + 1, none⟩ = some (.int .i64 ((rd_T29 l0_0 x8_1).f0.f1)) ∧ w'.cell? ⟨(ad462.add ((x8_1).toNat * 11)).block, (ad462.add ((x8_1).toNat * 11)).off + 2, none⟩ = some (.int .i64 ((rd_T29 l0_0 x8_1).f0.f2)) ∧ w'.cell? ⟨(ad462.add ((x8_1).toNat * 11)).block, (ad462.add ((x8_1).toNat * 11)).off + 3, none⟩ = some (.bool ((rd_T29 l0_0 x8_1).f0.f3)) ∧ w'.cell? ⟨(ad462.add ((x8_1).toNat * 11)).block, (ad462.add ((x8_1).toNat * 11)).off + 4, none⟩ = some (.int .i64 ((rd_T29 l0_0 x8_1).f1.f0)) ∧ w'.cell? ⟨(ad462.add ((x8_1).toNat * 11)).block, (ad462.add ((x8_1).toNat * 11)).off + 5, none⟩ = some (.int .i64 ((rd_T29 l0_0 x8_1).f1.f1)) ∧ w'.cell? ⟨(ad462.add ((x8_1).toNat * 11)).block, (ad462.add ((x8_1).toNat * 11)).off + 6, none⟩ = some (.int .i64 ((rd_T29 l0_0 x8_1).f1.f2)) ∧ w'.cell? ⟨(ad462.add ((x8_1).toNat * 11)).block, (ad462.add ((x8_1).toNat * 11)).off + 7, none⟩ = some (.int .i64 ((rd_T29 l0_0 x8_1).f2)) ∧ w'.cell? ⟨(ad462.add ((x8_1).toNat * 11)).block, (ad462.add ((x8_1).toNat * 11)).off + 8, none⟩ = some (.int .i64 ((rd_T29 l0_0 x8_1).f3)) ∧ w'.cell? ⟨(ad462.add ((x8_1).toNat * 11)).block, (ad462.add ((x8_1).toNat * 11)).off + 9, none⟩ = some (.int .u32 ((rd_T29 l0_0 x8_1).f4)) ∧ w'.cell? ⟨(ad462.add ((x8_1).toNat * 11)).block, (ad462.add ((x8_1).toNat * 11)).off + 10, none⟩ = some (.int .i64 ((rd_T29 l0_0 x8_1).f5))) (ds := [10]) #[false, false, false, false, false, false, false, false, false, false, false] (by kernel_rfl) rfl rfl ⟨(blk_cell BK461.out 0).trans rfl, (blk_cell BK461.out 1).trans rfl, (blk_cell BK457.out 0).trans rfl, (blk_cell BK457.out 1).trans rfl, ((HB.out.cell (World.block_lt_of_cell? w _ hw462_0)).trans hw462_0), ((HB.out.cell (World.block_lt_of_cell? w _ hw462_1)).trans hw462_1), ((HB.out.cell (World.block_lt_of_cell? w _ hw462_2)).trans hw462_2), ((HB.out.cell (World.block_lt_of_cell? w _ hw462_3)).trans hw462_3), ((HB.out.cell (World.block_lt_of_cell? w _ hw462_4)).trans hw462_4), ((HB.out.cell (World.block_lt_of_cell? w _ hw462_5)).trans hw462_5), ((HB.out.cell (World.block_lt_of_cell? w _ hw462_6)).trans hw462_6), ((HB.out.cell (World.block_lt_of_cell? w _ hw462_7)).trans hw462_7), ((HB.out.cell (World.block_lt_of_cell? w _ hw462_8)).trans hw462_8), ((HB.out.cell (World.block_lt_of_cell? w _ hw462_9)).trans hw462_9), ((HB.out.cell (World.block_lt_of_cell? w _ hw462_10)).trans hw462_10)⟩ (fun hHeld => ?_); refine with_tabW weftlineref14_Delete.tab15 weftlineref14_Delete.bits15 (fun HT_ HW_ => ?_)
                      generalize w51.drew = w52 at HO_462000 BK457 BK458 BK461 HB hx462_0 hx462_1 hx462_10 hx462_2 hx462_3 hx462_4 hx462_5 hx462_6 hx462_7 hx462_8 hx462_9 hHeld ⊢
                      refine pure_ (i := 0) (N := some 43) (v := ?_) (a' := ?_) #[true, false, false, false, false, false, false, false, false, false, false] rfl rfl (any_of HT_.out (by kernel_rfl)) (fun _ _ _ h => h) (Or.inl ⟨by rfl, ?_⟩) ?_ ?_
                      rotate_left
                      · intro w'
                        go_simp
                        with_reducible rfl
                      rotate_left
                      · simp only [Act.put, List.setIfInBounds_toArray, List.set_cons_zero, List.set_cons_succ, i64_w, i32_w]
                        rfl
                      refine pure_ (i := 2) (N := some 45) (v := ?_) (a' := ?_) #[true, false, true, false, false, false, false, false, false, false, false] rfl rfl (any_of HT_.out (by kernel_rfl)) (fun _ _ _ h => h) (Or.inl ⟨by rfl, ?_⟩) ?_ ?_
                      rotate_left
                      · intro w'
                        go_simp
                        with_reducible rfl
                      rotate_left
                      · simp only [Act.put, List.setIfInBounds_toArray, List.set_cons_zero, List.set_cons_succ, i64_w, i32_w]
                        rfl
                      refine pure_ (i := 4) (N := some 47) (v := ?_) (a' := ?_) #[true, false, true, false, true, false, false, false, false, false, false] rfl rfl (any_of HT_.out (by kernel_rfl)) (fun _ _ _ h => h) (Or.inl ⟨by rfl, ?_⟩) ?_ ?_
                      rotate_left
                      · intro w'
                        go_simp
                        with_reducible rfl
                      rotate_left
                      · simp only [Act.put, List.setIfInBounds_toArray, List.set_cons_zero, List.set_cons_succ, i64_w, i32_w]
                        rfl
                      refine take_ (i := 1) (N := some 44) (v := ?_) (a' := ?_) #[true, true, true, false, true, false, false, false, false, false, false] rfl rfl (take_ofW HT_.out HW_.out (by kernel_rfl)) (fun _ _ _ h => h) (Or.inl ⟨by rfl, ?_⟩) hHeld ?_ ?_
                      rotate_left
                      · rintro w' ⟨s0, s1, s2, s3, s4, s5, s6, s7, s8, s9, s10, s11, s12, s13, s14⟩
                        go_simp
                        with_reducible rfl
                      rotate_left
                      · simp only [Act.put, List.setIfInBounds_toArray, List.set_cons_zero, List.set_cons_succ, i64_w, i32_w]
                        rfl
                      refine take_ (i := 3) (N := some 46) (v := ?_) (a' := ?_) #[true, true, true, true, true, false, false, false, false, false, false] rfl rfl (take_ofW HT_.out HW_.out (by kernel_rfl)) (fun _ _ _ h => h) (Or.inl ⟨by rfl, ?_⟩) hHeld ?_ ?_
                      rotate_left
                      · rintro w' ⟨s0, s1, s2, s3, s4, s5, s6, s7, s8, s9, s10, s11, s12, s13, s14⟩
                        go_simp
                        with_reducible rfl
                      rotate_left
                      · simp only [Act.put, List.setIfInBounds_toArray, List.set_cons_zero, List.set_cons_succ, i64_w, i32_w]
                        rfl
                      refine pure_ (i := 5) (N := some 48) (v := ?_) (a' := ?_) #[true, true, true, true, true, true, false, false, false, false, false] rfl rfl (any_of HT_.out (by kernel_rfl)) (fun _ _ _ h => h) (Or.inl ⟨by rfl, ?_⟩) ?_ ?_
                      rotate_left
                      · intro w'
                        go_simp
                        with_reducible rfl
                      rotate_left
                      · simp only [Act.put, List.setIfInBounds_toArray, List.set_cons_zero, List.set_cons_succ, i64_w, i32_w]
                        rfl
                      refine take_ (i := 6) (N := some 49) (v := ?_) (a' := ?_) #[true, true, true, true, true, true, true, false, false, false, false] rfl rfl (take_ofW HT_.out HW_.out (by kernel_rfl)) (fun _ _ _ h => h) (Or.inl ⟨by rfl, ?_⟩) hHeld ?_ ?_
                      rotate_left
                      · rintro w' ⟨s0, s1, s2, s3, s4, s5, s6, s7, s8, s9, s10, s11, s12, s13, s14⟩
                        go_simp
                        with_reducible rfl
                      rotate_left
                      · simp only [Act.put, List.setIfInBounds_toArray, List.set_cons_zero, List.set_cons_succ, i64_w, i32_w]
                        rfl
                      refine one_ (i := 7) (N := some 50) #[true, true, true, true, true, true, true, true, false, false, false] rfl rfl (one_of HT_.out (by kernel_rfl)) (by decide) (fun K hK => ?_)
                      refine value_ (w1 := ?_) (v := ?_) (by rfl) rfl ?_ ?_
                      rotate_left 2
                      · go_simp
                        constructor
                        · rfl
                        · rfl
                      refine hK.out _ _ ⟨(blk_cell (blk_alloc BK461.out _) 0).trans rfl, (blk_cell (blk_alloc BK461.out _) 1).trans rfl, (blk_cell (blk_alloc BK457.out _) 0).trans rfl, (blk_cell (blk_alloc BK457.out _) 1).trans rfl, (World.cell?_alloc_lt _ _ _ (World.block_lt_of_cell? _ _ (((HB.out.cell (World.block_lt_of_cell? w _ hw462_0)).trans hw462_0)))).trans (((HB.out.cell (World.block_lt_of_cell? w _ hw462_0)).trans hw462_0)), (World.cell?_alloc_lt _ _ _ (World.block_lt_of_cell? _ _ (((HB.out.cell (World.block_lt_of_cell? w _ hw462_1)).trans hw462_1)))).trans (((HB.out.cell (World.block_lt_of_cell? w _ hw462_1)).trans hw462_1)), (World.cell?_alloc_lt _ _ _ (World.block_lt_of_cell? _ _ (((HB.out.cell (World.block_lt_of_cell? w _ hw462_2)).trans hw462_2)))).trans (((HB.out.cell (World.block_lt_of_cell? w _ hw462_2)).trans hw462_2)), (World.cell?_alloc_lt _ _ _ (World.block_lt_of_cell? _ _ (((HB.out.cell (World.block_lt_of_cell? w _ hw462_3)).trans hw462_3)))).trans (((HB.out.cell (World.block_lt_of_cell? w _ hw462_3)).trans hw462_3)), (World.cell?_alloc_lt _ _ _ (World.block_lt_of_cell? _ _ (((HB.out.cell (World.block_lt_of_cell? w _ hw462_4)).trans hw462_4)))).trans (((HB.out.cell (World.block_lt_of_cell? w _ hw462_4)).trans hw462_4)), (World.cell?_alloc_lt _ _ _ (World.block_lt_of_cell? _ _ (((HB.out.cell (World.block_lt_of_cell? w _ hw462_5)).trans hw462_5)))).trans (((HB.out.cell (World.block_lt_of_cell? w _ hw462_5)).trans hw462_5)), (World.cell?_alloc_lt _ _ _ (World.block_lt_of_cell? _ _ (((HB.out.cell (World.block_lt_of_cell? w _ hw462_6)).trans hw462_6)))).trans (((HB.out.cell (World.block_lt_of_cell? w _ hw462_6)).trans hw462_6)), (World.cell?_alloc_lt _ _ _ (World.block_lt_of_cell? _ _ (((HB.out.cell (World.block_lt_of_cell? w _ hw462_7)).trans hw462_7)))).trans (((HB.out.cell (World.block_lt_of_cell? w _ hw462_7)).trans hw462_7)), (World.cell?_alloc_lt _ _ _ (World.block_lt_of_cell? _ _ (((HB.out.cell (World.block_lt_of_cell? w _ hw462_8)).trans hw462_8)))).trans (((HB.out.cell (World.block_lt_of_cell? w _ hw462_8)).trans hw462_8)), (World.cell?_alloc_lt _ _ _ (World.block_lt_of_cell? _ _ (((HB.out.cell (World.block_lt_of_cell? w _ hw462_9)).trans hw462_9)))).trans (((HB.out.cell (World.block_lt_of_cell? w _ hw462_9)).trans hw462_9)), (World.cell?_alloc_lt _ _ _ (World.block_lt_of_cell? _ _ (((HB.out.cell (World.block_lt_of_cell? w _ hw462_10)).trans hw462_10)))).trans (((HB.out.cell (World.block_lt_of_cell? w _ hw462_10)).trans hw462_10))⟩ (fun hHeld => ?_)
                      clear hK K
                      refine norm_ (a' := ?_) ?_ ?_
                      rotate_left
                      · show Act.put _ (some 50) _ = _
                        simp only [Act.put, List.setIfInBounds_toArray, List.set_cons_zero, List.set_cons_succ, i64_w, i32_w]
                        rfl
                      refine one_ (i := 8) (N := some 51) #[true, true, true, true, true, true, true, true, true, false, false] rfl rfl (one_of HT_.out (by kernel_rfl)) (by decide) (fun K hK => ?_)
                      refine Kd.R_append_step k29 (w0 := w) w.heap.size (by rfl) (.tmp 44) (.tmp 50) 64 29 (.agg #[(.int .i64 0), (.int .i64 0), (.int .i64 0), (.bool false), (.int .i64 0), (.int .i64 0), (.int .i64 0), (.int .i64 0), (.int .i64 0), (.int .u32 0), (.int .i64 0)]) 88 rfl Try.underlying64 info29 rfl (by decide) (by omega) (.slice Ao50 x462000_1.length co50) x462000_1 (⟨(⟨(rd_T29 l0_0 x8_1).f0.f0, (rd_T29 l0_0 x8_1).f0.f1, (rd_T29 l0_0 x8_1).f0.f2, (rd_T29 l0_0 x8_1).f0.f3⟩ : S23), (⟨(rd_T29 l0_0 x8_1).f1.f0, (rd_T29 l0_0 x8_1).f1.f1, (rd_T29 l0_0 x8_1).f1.f2⟩ : S25), (rd_T29 l0_0 x8_1).f2, (rd_T29 l0_0 x8_1).f3, (rd_T29 l0_0 x8_1).f4, (rd_T29 l0_0 x8_1).f5⟩ : S29) [.int .i64 ((rd_T29 l0_0 x8_1).f0.f0), .int .i64 ((rd_T29 l0_0 x8_1).f0.f1), .int .i64 ((rd_T29 l0_0 x8_1).f0.f2), .bool ((rd_T29 l0_0 x8_1).f0.f3), .int .i64 ((rd_T29 l0_0 x8_1).f1.f0), .int .i64 ((rd_T29 l0_0 x8_1).f1.f1), .int .i64 ((rd_T29 l0_0 x8_1).f1.f2), .int .i64 ((rd_T29 l0_0 x8_1).f2), .int .i64 ((rd_T29 l0_0 x8_1).f3), .int .u32 ((rd_T29 l0_0 x8_1).f4), .int .i64 ((rd_T29 l0_0 x8_1).f5)] (fun _ => True) (fun _ => False) rfl rfl ?aP (fun _ hk => hk.elim) ?aF ?aO ?aB ?aS ?aL ?_
                      (case aP => exact k29_mkM _ _ _ (⟨(⟨(rd_T29 l0_0 x8_1).f0.f0, (rd_T29 l0_0 x8_1).f0.f1, (rd_T29 l0_0 x8_1).f0.f2, (rd_T29 l0_0 x8_1).f0.f3⟩ : S23), (⟨(rd_T29 l0_0 x8_1).f1.f0, (rd_T29 l0_0 x8_1).f1.f1, (rd_T29 l0_0 x8_1).f1.f2⟩ : S25), (rd_T29 l0_0 x8_1).f2, (rd_T29 l0_0 x8_1).f3, (rd_T29 l0_0 x8_1).f4, (rd_T29 l0_0 x8_1).f5⟩ : S29))
                      (case aB => exact (by repeat (first | (with_reducible first | exact HB.out | apply below_alloc | apply pw_below_drewN | apply below_drew1 | refine below_set ?_ GE457.out | refine below_set ?_ GE458.out | refine below_set ?_ GE461.out) | exact HB.out)))
                      (case aF => exact (fun _ _ => trivial))
                      (case aO => exact (by (with_reducible repeat (first | apply Kd.R_alloc | apply Kd.R_drewN | apply Kd.R_drew)); exact HO_462000.out))
                      (case aS => exact (below_size (by repeat (first | (with_reducible first | exact HB.out | apply below_alloc | apply pw_below_drewN | apply below_drew1 | refine below_set ?_ GE457.out | refine below_set ?_ GE458.out | refine below_set ?_ GE461.out) | exact HB.out))))
                      (case aL => have := LMc44.out; omega)
                      intro v464 w53 ho hb hg hat
                      rw [← Ny463.out] at ho
                      have n0_ := Aside0.mk (blk_grown (g := gb457) (o := .cells #[.slice (some ad462) l0_0.length c0_0, .int .i64 a0_1] 66 (0, 0)) (by (with_reducible repeat (first | refine blk_drewN ?_ _ | refine blk_drew ?_ | refine blk_alloc ?_ _)); exact BK457.out) hg (Kd.R_ne HO_462000.out BK457.out (by decide)))
                      have n1_ := Aside0.mk (blk_grown (g := gb458) (o := .cells #[.slice none 0 0, .int .i64 0] 66 (0, 0)) (by (with_reducible repeat (first | refine blk_drewN ?_ _ | refine blk_drew ?_ | refine blk_alloc ?_ _)); exact BK458.out) hg (Kd.R_ne HO_462000.out BK458.out (by decide)))
                      have n2_ := Aside0.mk (blk_grown (g := gb461) (o := .cells #[.slice Ao50 x462000_1.length co50, .int .i64 (x462000_1.length : Int)] 66 (0, 0)) (by (with_reducible repeat (first | refine blk_drewN ?_ _ | refine blk_drew ?_ | refine blk_alloc ?_ _)); exact BK461.out) hg (Kd.R_ne HO_462000.out BK461.out (by decide)))
                      have n3_ := Aside0.mk (hb)
                      have n4_ := Aside0.mk (ho)
                      clear BK457
                      clear BK458
                      clear BK461
                      clear HB
                      clear HO_462000
                      have BK457 := n0_
                      have BK458 := n1_
                      have BK461 := n2_
                      have HB := n3_
                      have HO465 := n4_
                      clear n0_ n1_ n2_ n3_ n4_
                      clear ho hb hg hat
                      obtain ⟨Ao54, co54, eo54⟩ := Kd.R_slice HO465.out
                      (first | subst eo54 | (injection eo54 with f1_ f2_ f3_; have f4_ := f1_.symm; have f5_ := f3_.symm; clear f1_ f2_ f3_; subst f4_; subst f5_))
                      refine hK.out _ _ ⟨(blk_cell BK461.out 0).trans rfl, (blk_cell BK461.out 1).trans rfl, (blk_cell BK457.out 0).trans rfl, (blk_cell BK457.out 1).trans rfl, ((HB.out.cell (World.block_lt_of_cell? w _ hw462_0)).trans hw462_0), ((HB.out.cell (World.block_lt_of_cell? w _ hw462_1)).trans hw462_1), ((HB.out.cell (World.block_lt_of_cell? w _ hw462_2)).trans hw462_2), ((HB.out.cell (World.block_lt_of_cell? w _ hw462_3)).trans hw462_3), ((HB.out.cell (World.block_lt_of_cell? w _ hw462_4)).trans hw462_4), ((HB.out.cell (World.block_lt_of_cell? w _ hw462_5)).trans hw462_5), ((HB.out.cell (World.block_lt_of_cell? w _ hw462_6)).trans hw462_6), ((HB.out.cell (World.block_lt_of_cell? w _ hw462_7)).trans hw462_7), ((HB.out.cell (World.block_lt_of_cell? w _ hw462_8)).trans hw462_8), ((HB.out.cell (World.block_lt_of_cell? w _ hw462_9)).trans hw462_9), ((HB.out.cell (World.block_lt_of_cell? w _ hw462_10)).trans hw462_10)⟩ (fun hHeld => ?_)
                      clear hK K
                      refine norm_ (a' := ?_) ?_ ?_
                      rotate_left
                      · show Act.put _ (some 51) _ = _
                        simp only [Act.put, List.setIfInBounds_toArray, List.set_cons_zero, List.set_cons_succ, i64_w, i32_w]
                        rfl
                      refine pure_ (i := 9) (N := some 52) (v := ?_) (a' := ?_) #[true, true, true, true, true, true, true, true, true, true, false] rfl rfl (any_of HT_.out (by kernel_rfl)) (fun _ _ _ h => h) (Or.inl ⟨by rfl, ?_⟩) ?_ ?_
                      rotate_left
                      · intro w'
                        go_simp
                        with_reducible rfl
                      rotate_left
                      · simp only [Act.put, List.setIfInBounds_toArray, List.set_cons_zero, List.set_cons_succ, i64_w, i32_w]
                        rfl
                      refine last_ (i := 10) (N := none) #[true, true, true, true, true, true, true, true, true, true, true] rfl rfl (one_of HT_.out (by kernel_rfl)) (by decide) (fun K hK => ?_)
                      have hs55 : w53.cell? ⟨gb461, 0, none⟩ = some (.slice Ao50 x462000_1.length co50) := (blk_cell BK461.out 0).trans rfl
                      have hfs55 := blk_frozen BK461.out 0
                      have hns55_0 := NB457_461.out
                      have hns55_1 := NB458_461.out
                      have hms55_0 := NB461_457.out
                      have hms55_1 := NB461_458.out
                      refine skip_ (w1 := ?_) (by rfl) rfl ?_ ?_
                      rotate_left
                      · go_simp
                        rfl
                      refine hK.out _ _ ?_
                      clear hK K
                      refine done_ (done_of HT_.out (by kernel_rfl)) ?_
                      try go_wp2
                      go_roundg k1
                      case measure => have := HK1.out; omega
                      case rel => exact ⟨(wrap64 (x8_1 + 1)), (y463), ((x462000_1.length : Int)), (.slice Ao54 y463.length co54), (by first | rfl | (simp; done) | (simp [*]; done)), H', ⟨by have := HK1.out; omega⟩, ⟨by (with_reducible repeat (first | apply Kd.R_alloc | apply Kd.R_drewN | apply Kd.R_drew)); exact Kd.R_mono (Kd.R_far (p := ⟨gb461, 0, none⟩) (Kd.R_types HO465.out BK461.out (by decide)) (fun _ hk => hk.2) (.slice Ao54 y463.length co54)) (fun _ hk => trivial)⟩, ⟨by (with_reducible repeat (first | refine blk_drewN ?_ _ | refine blk_drew ?_ | refine blk_alloc ?_ _)); refine blk_far ?_ NB457_461.out _; (with_reducible repeat (first | refine blk_drewN ?_ _ | refine blk_drew ?_ | refine blk_alloc ?_ _)); exact BK457.out⟩, ⟨by (with_reducible repeat (first | refine blk_drewN ?_ _ | refine blk_drew ?_ | refine blk_alloc ?_ _)); refine blk_far ?_ NB458_461.out _; (with_reducible repeat (first | refine blk_drewN ?_ _ | refine blk_drew ?_ | refine blk_alloc ?_ _)); exact BK458.out⟩, ⟨by (with_reducible repeat (first | refine blk_drewN ?_ _ | refine blk_drew ?_ | refine blk_alloc ?_ _)); refine blk_put (cs := #[.slice Ao50 x462000_1.length co50, .int .i64 (x462000_1.length : Int)]) ?_ 0 _ rfl; (with_reducible repeat (first | refine blk_drewN ?_ _ | refine blk_drew ?_ | refine blk_alloc ?_ _)); exact BK461.out⟩, ⟨by repeat (first | (with_reducible first | exact HB.out | apply below_alloc | apply pw_below_drewN | apply below_drew1 | refine below_set ?_ GE457.out | refine below_set ?_ GE458.out | refine below_set ?_ GE461.out) | exact HB.out)⟩⟩
                    · rw [if_neg c44] at H
                      exact absurd H (by simp)
                  · rw [if_neg c43] at H
                    exact absurd H (by simp)
                · rw [if_neg c42] at H
                  have c42b0 : (x8_1 == a0_1) = false := beq_eq_false_iff_ne.mpr c42
                  have c42b1 : (x8_1 != a0_1) = true := bne_iff_ne.mpr c42
                  by_cases c56 : 0 ≤ x8_1
                  · rw [if_pos c56] at H
                    have c56b0 : decide (0 ≤ x8_1) = true := decide_eq_true c56
                    clear c56
                    by_cases c57 : x462000_1.length < 1599289640401
                    · rw [if_pos c57] at H
                      have LMc57 := Aside0.mk c57
                      clear c57
                      obtain ⟨y467, hy467⟩ : ∃ y_ : List (S29), y_ = (x462000_1 ++ [(⟨(⟨(rd_T29 l0_0 x8_1).f0.f0, (rd_T29 l0_0 x8_1).f0.f1, (rd_T29 l0_0 x8_1).f0.f2, (rd_T29 l0_0 x8_1).f0.f3⟩ : S23), (⟨(rd_T29 l0_0 x8_1).f1.f0, (rd_T29 l0_0 x8_1).f1.f1, (rd_T29 l0_0 x8_1).f1.f2⟩ : S25), (rd_T29 l0_0 x8_1).f2, (rd_T29 l0_0 x8_1).f3, (rd_T29 l0_0 x8_1).f4, (rd_T29 l0_0 x8_1).f5⟩ : S29)]) := ⟨_, rfl⟩
                      replace H : (weftlineref14_Delete.l0 k1 t460 (wrap64 (x8_1 + 1)) l0_0 a0_1 y467 x462001_1) = some (r1, r2, r3) := by first | (rw [hy467]; with_reducible exact H) | (have H2_ := (Option.bind_some _ _).symm.trans H; rw [hy467]; with_reducible exact H2_) | (have H2_ := (Option.bind_some _ _).symm.trans H; with_reducible exact H2_) | with_reducible exact H | (rw [hy467]; exact H) | exact H
                      have Ny467 := Aside0.mk hy467
                      clear hy467
                      have H' := Aside0.mk H
                      clear H
                      have hnb58 := NB457_458.out
                      have hnc58 := NB458_457.out
                      have hnb59 := NB457_461.out
                      have hnc59 := NB461_457.out
                      have hcz60_0 : wr.cell? ⟨gb457, 0, none⟩ = some (.slice A0_0 l0_0.length c0_0) := (blk_cell BK457.out 0).trans rfl
                      have hcz60_1 : wr.cell? ⟨gb457, 1, none⟩ = some (.int .i64 a0_1) := (blk_cell BK457.out 1).trans rfl
                      have hfz60_0 := blk_frozen BK457.out 0
                      have hfz60_1 := blk_frozen BK457.out 1
                      try go_wp2
                      have n0_ := Aside0.mk (Kd.R_drew HO_462000.out)
                      have n1_ := Aside0.mk (blk_drew BK457.out)
                      have n2_ := Aside0.mk (blk_drew BK458.out)
                      have n3_ := Aside0.mk (blk_drew BK461.out)
                      have n4_ := Aside0.mk (below_drew1 HB.out)
                      clear HO_462000
                      clear BK457
                      clear BK458
                      clear BK461
                      clear HB
                      have HO_462000 := n0_
                      have BK457 := n1_
                      have BK458 := n2_
                      have BK461 := n3_
                      have HB := n4_
                      clear n0_ n1_ n2_ n3_ n4_
                      have p466 : 0 ≤ (x8_1 : Int) := of_decide_eq_true (by first | (with_reducible assumption) | assumption)
                      have q466 : x8_1 < (l0_0.length : Int) := of_decide_eq_true (by first | (with_reducible assumption) | assumption)
                      obtain ⟨ad466, e466, hx466_0, hx466_1, hx466_2, hx466_3, hx466_4, hx466_5, hx466_6, hx466_7, hx466_8, hx466_9, hx466_10⟩ := at_T29 HR0_0.out x8_1 p466 q466
                      have hw466_10 := hx466_10
                      have hw466_9 := hx466_9
                      have hw466_8 := hx466_8
                      have hw466_7 := hx466_7
                      have hw466_6 := hx466_6
                      have hw466_5 := hx466_5
                      have hw466_4 := hx466_4
                      have hw466_3 := hx466_3
                      have hw466_2 := hx466_2
                      have hw466_1 := hx466_1
                      have hw466_0 := hx466_0
                      cases e466
                      replace hx466_0 := (HB.out.cell (World.block_lt_of_cell? w _ hx466_0)).trans hx466_0
                      replace hx466_1 := (HB.out.cell (World.block_lt_of_cell? w _ hx466_1)).trans hx466_1
                      replace hx466_2 := (HB.out.cell (World.block_lt_of_cell? w _ hx466_2)).trans hx466_2
                      replace hx466_3 := (HB.out.cell (World.block_lt_of_cell? w _ hx466_3)).trans hx466_3
                      replace hx466_4 := (HB.out.cell (World.block_lt_of_cell? w _ hx466_4)).trans hx466_4
                      replace hx466_5 := (HB.out.cell (World.block_lt_of_cell? w _ hx466_5)).trans hx466_5
                      replace hx466_6 := (HB.out.cell (World.block_lt_of_cell? w _ hx466_6)).trans hx466_6
                      replace hx466_7 := (HB.out.cell (World.block_lt_of_cell? w _ hx466_7)).trans hx466_7
                      replace hx466_8 := (HB.out.cell (World.block_lt_of_cell? w _ hx466_8)).trans hx466_8
                      replace hx466_9 := (HB.out.cell (World.block_lt_of_cell? w _ hx466_9)).trans hx466_9
                      replace hx466_10 := (HB.out.cell (World.block_lt_of_cell? w _ hx466_10)).trans hx466_10
                      replace p466 := eq_true p466
                      replace q466 := eq_true q466
                      refine start_ (n := 11) (S := fun w' => w'.cell? ⟨gb461, 0, none⟩ = some (u462000) ∧ w'.cell? ⟨gb461, 1, none⟩ = some (.int .i64 x462001_1) ∧ w'.cell? ⟨gb457, 0, none⟩ = some (.slice (some ad466) l0_0.length c0_0) ∧ w'.cell? ⟨gb457, 1, none⟩ = some (.int .i64 a0_1) ∧ w'.cell? (ad466.add ((x8_1).toNat * 11)) = some (.int .i64 ((rd_T29 l0_0 x8_1).f0.f0)) ∧ w'.cell? ⟨(ad466.add ((x8_1).toNat * 11)).block, (ad466.add ((x8_1).toNat * 11)).off + 1, none⟩ = some (.int .i64 ((rd_T29 l0_0 x8_1).f0.f1)) ∧ w'.cell? ⟨(ad466.add ((x8_1).toNat * 11)).block, (ad466.add ((x8_1).toNat * 11)).off + 2, none⟩ = some (.int .i64 ((rd_T29 l0_0 x8_1).f0.f2)) ∧ w'.cell? ⟨(ad466.add ((x8_1).toNat * 11)).block, (ad466.add ((x8_1).toNat * 11)).off + 3, none⟩ = some (.bool ((rd_T29 l0_0 x8_1).f0.f3)) ∧ w'.cell? ⟨(ad466.add ((x8_1).toNat * 11)).block, (ad466.add ((x8_1).toNat * 11)).off + 4, none⟩ = some (.int .i64 ((rd_T29 l0_0 x8_1).f1.f0)) ∧ w'.cell? ⟨(ad466.add ((x8_1).toNat * 11)).block, (ad466.add ((x8_1).toNat * 11)).off + 5, none⟩ = some (.int .i64 ((rd_T29 l0_0 x8_1).f1.f1)) ∧ w'.cell? ⟨(ad466.add ((x8_1).toNat * 11)).block, (ad466.add ((x8_1).toNat * 11)).off + 6, none⟩ = some (.int .i64 ((rd_T29 l0_0 x8_1).f1.f2)) ∧ w'.cell? ⟨(ad466.add ((x8_1).toNat * 11)).block, (ad466.add ((x8_1).toNat * 11)).off + 7, none⟩ = some (.int .i64 ((rd_T29 l0_0 x8_1).f2)) ∧ w'.cell? ⟨(ad466.add ((x8_1).toNat * 11)).block, (ad466.add ((x8_1).toNat * 11)).off + 8, none⟩ = some (.int .i64 ((rd_T29 l0_0 x8_1).f3)) ∧ w'.cell? ⟨(ad466.add ((x8_1).toNat * 11)).block, (ad466.add ((x8_1).toNat * 11)).off + 9, none⟩ = some (.int .u32 ((rd_T29 l0_0 x8_1).f4)) ∧ w'.cell? ⟨(ad466.add ((x8_1).toNat * 11)).block, (ad466.add ((x8_1).toNat * 11)).off + 10, none⟩ = some (.int .i64 ((rd_T29 l0_0 x8_1).f5))) (ds := [10]) #[false, false, false, false, false, false, false, false, false, false, false] (by kernel_rfl) rfl rfl ⟨(blk_cell BK461.out 0).trans rfl, (blk_cell BK461.out 1).trans rfl, (blk_cell BK457.out 0).trans rfl, (blk_cell BK457.out 1).trans rfl, ((HB.out.cell (World.block_lt_of_cell? w _ hw466_0)).trans hw466_0), ((HB.out.cell (World.block_lt_of_cell? w _ hw466_1)).trans hw466_1), ((HB.out.cell (World.block_lt_of_cell? w _ hw466_2)).trans hw466_2), ((HB.out.cell (World.block_lt_of_cell? w _ hw466_3)).trans hw466_3), ((HB.out.cell (World.block_lt_of_cell? w _ hw466_4)).trans hw466_4), ((HB.out.cell (World.block_lt_of_cell? w _ hw466_5)).trans hw466_5), ((HB.out.cell (World.block_lt_of_cell? w _ hw466_6)).trans hw466_6), ((HB.out.cell (World.block_lt_of_cell? w _ hw466_7)).trans hw466_7), ((HB.out.cell (World.block_lt_of_cell? w _ hw466_8)).trans hw466_8), ((HB.out.cell (World.block_lt_of_cell? w _ hw466_9)).trans hw466_9), ((HB.out.cell (World.block_lt_of_cell? w _ hw466_10)).trans hw466_10)⟩ (fun hHeld => ?_); refine with_tabW weftlineref14_Delete.tab15 weftlineref14_Delete.bits15 (fun HT_ HW_ => ?_)
                      generalize wr.drew = w61 at HO_462000 BK457 BK458 BK461 HB hx466_0 hx466_1 hx466_10 hx466_2 hx466_3 hx466_4 hx466_5 hx466_6 hx466_7 hx466_8 hx466_9 hHeld ⊢
                      refine pure_ (i := 0) (N := some 43) (v := ?_) (a' := ?_) #[true, false, false, false, false, false, false, false, false, false, false] rfl rfl (any_of HT_.out (by kernel_rfl)) (fun _ _ _ h => h) (Or.inl ⟨by rfl, ?_⟩) ?_ ?_
                      rotate_left
                      · intro w'
                        go_simp
                        with_reducible rfl
                      rotate_left
                      · simp only [Act.put, List.setIfInBounds_toArray, List.set_cons_zero, List.set_cons_succ, i64_w, i32_w]
                        rfl
                      refine pure_ (i := 2) (N := some 45) (v := ?_) (a' := ?_) #[true, false, true, false, false, false, false, false, false, false, false] rfl rfl (any_of HT_.out (by kernel_rfl)) (fun _ _ _ h => h) (Or.inl ⟨by rfl, ?_⟩) ?_ ?_
                      rotate_left
                      · intro w'
                        go_simp
                        with_reducible rfl
                      rotate_left
                      · simp only [Act.put, List.setIfInBounds_toArray, List.set_cons_zero, List.set_cons_succ, i64_w, i32_w]
                        rfl
                      refine pure_ (i := 4) (N := some 47) (v := ?_) (a' := ?_) #[true, false, true, false, true, false, false, false, false, false, false] rfl rfl (any_of HT_.out (by kernel_rfl)) (fun _ _ _ h => h) (Or.inl ⟨by rfl, ?_⟩) ?_ ?_
                      rotate_left
                      · intro w'
                        go_simp
                        with_reducible rfl
                      rotate_left
                      · simp only [Act.put, List.setIfInBounds_toArray, List.set_cons_zero, List.set_cons_succ, i64_w, i32_w]
                        rfl
                      refine take_ (i := 1) (N := some 44) (v := ?_) (a' := ?_) #[true, true, true, false, true, false, false, false, false, false, false] rfl rfl (take_ofW HT_.out HW_.out (by kernel_rfl)) (fun _ _ _ h => h) (Or.inl ⟨by rfl, ?_⟩) hHeld ?_ ?_
                      rotate_left
                      · rintro w' ⟨s0, s1, s2, s3, s4, s5, s6, s7, s8, s9, s10, s11, s12, s13, s14⟩
                        go_simp
                        with_reducible rfl
                      rotate_left
                      · simp only [Act.put, List.setIfInBounds_toArray, List.set_cons_zero, List.set_cons_succ, i64_w, i32_w]
                        rfl
                      refine take_ (i := 3) (N := some 46) (v := ?_) (a' := ?_) #[true, true, true, true, true, false, false, false, false, false, false] rfl rfl (take_ofW HT_.out HW_.out (by kernel_rfl)) (fun _ _ _ h => h) (Or.inl ⟨by rfl, ?_⟩) hHeld ?_ ?_
                      rotate_left
                      · rintro w' ⟨s0, s1, s2, s3, s4, s5, s6, s7, s8, s9, s10, s11, s12, s13, s14⟩
                        go_simp
                        with_reducible rfl
                      rotate_left
                      · simp only [Act.put, List.setIfInBounds_toArray, List.set_cons_zero, List.set_cons_succ, i64_w, i32_w]
                        rfl
                      refine pure_ (i := 5) (N := some 48) (v := ?_) (a' := ?_) #[true, true, true, true, true, true, false, false, false, false, false] rfl rfl (any_of HT_.out (by kernel_rfl)) (fun _ _ _ h => h) (Or.inl ⟨by rfl, ?_⟩) ?_ ?_
                      rotate_left
                      · intro w'
                        go_simp
                        with_reducible rfl
                      rotate_left
                      · simp only [Act.put, List.setIfInBounds_toArray, List.set_cons_zero, List.set_cons_succ, i64_w, i32_w]
                        rfl
                      refine take_ (i := 6) (N := some 49) (v := ?_) (a' := ?_) #[true, true, true, true, true, true, true, false, false, false, false] rfl rfl (take_ofW HT_.out HW_.out (by kernel_rfl)) (fun _ _ _ h => h) (Or.inl ⟨by rfl, ?_⟩) hHeld ?_ ?_
                      rotate_left
                      · rintro w' ⟨s0, s1, s2, s3, s4, s5, s6, s7, s8, s9, s10, s11, s12, s13, s14⟩
                        go_simp
                        with_reducible rfl
                      rotate_left
                      · simp only [Act.put, List.setIfInBounds_toArray, List.set_cons_zero, List.set_cons_succ, i64_w, i32_w]
                        rfl
                      refine one_ (i := 7) (N := some 50) #[true, true, true, true, true, true, true, true, false, false, false] rfl rfl (one_of HT_.out (by kernel_rfl)) (by decide) (fun K hK => ?_)
                      refine value_ (w1 := ?_) (v := ?_) (by rfl) rfl ?_ ?_
                      rotate_left 2
                      · go_simp
                        constructor
                        · rfl
                        · rfl
                      refine hK.out _ _ ⟨(blk_cell (blk_alloc BK461.out _) 0).trans rfl, (blk_cell (blk_alloc BK461.out _) 1).trans rfl, (blk_cell (blk_alloc BK457.out _) 0).trans rfl, (blk_cell (blk_alloc BK457.out _) 1).trans rfl, (World.cell?_alloc_lt _ _ _ (World.block_lt_of_cell? _ _ (((HB.out.cell (World.block_lt_of_cell? w _ hw466_0)).trans hw466_0)))).trans (((HB.out.cell (World.block_lt_of_cell? w _ hw466_0)).trans hw466_0)), (World.cell?_alloc_lt _ _ _ (World.block_lt_of_cell? _ _ (((HB.out.cell (World.block_lt_of_cell? w _ hw466_1)).trans hw466_1)))).trans (((HB.out.cell (World.block_lt_of_cell? w _ hw466_1)).trans hw466_1)), (World.cell?_alloc_lt _ _ _ (World.block_lt_of_cell? _ _ (((HB.out.cell (World.block_lt_of_cell? w _ hw466_2)).trans hw466_2)))).trans (((HB.out.cell (World.block_lt_of_cell? w _ hw466_2)).trans hw466_2)), (World.cell?_alloc_lt _ _ _ (World.block_lt_of_cell? _ _ (((HB.out.cell (World.block_lt_of_cell? w _ hw466_3)).trans hw466_3)))).trans (((HB.out.cell (World.block_lt_of_cell? w _ hw466_3)).trans hw466_3)), (World.cell?_alloc_lt _ _ _ (World.block_lt_of_cell? _ _ (((HB.out.cell (World.block_lt_of_cell? w _ hw466_4)).trans hw466_4)))).trans (((HB.out.cell (World.block_lt_of_cell? w _ hw466_4)).trans hw466_4)), (World.cell?_alloc_lt _ _ _ (World.block_lt_of_cell? _ _ (((HB.out.cell (World.block_lt_of_cell? w _ hw466_5)).trans hw466_5)))).trans (((HB.out.cell (World.block_lt_of_cell? w _ hw466_5)).trans hw466_5)), (World.cell?_alloc_lt _ _ _ (World.block_lt_of_cell? _ _ (((HB.out.cell (World.block_lt_of_cell? w _ hw466_6)).trans hw466_6)))).trans (((HB.out.cell (World.block_lt_of_cell? w _ hw466_6)).trans hw466_6)), (World.cell?_alloc_lt _ _ _ (World.block_lt_of_cell? _ _ (((HB.out.cell (World.block_lt_of_cell? w _ hw466_7)).trans hw466_7)))).trans (((HB.out.cell (World.block_lt_of_cell? w _ hw466_7)).trans hw466_7)), (World.cell?_alloc_lt _ _ _ (World.block_lt_of_cell? _ _ (((HB.out.cell (World.block_lt_of_cell? w _ hw466_8)).trans hw466_8)))).trans (((HB.out.cell (World.block_lt_of_cell? w _ hw466_8)).trans hw466_8)), (World.cell?_alloc_lt _ _ _ (World.block_lt_of_cell? _ _ (((HB.out.cell (World.block_lt_of_cell? w _ hw466_9)).trans hw466_9)))).trans (((HB.out.cell (World.block_lt_of_cell? w _ hw466_9)).trans hw466_9)), (World.cell?_alloc_lt _ _ _ (World.block_lt_of_cell? _ _ (((HB.out.cell (World.block_lt_of_cell? w _ hw466_10)).trans hw466_10)))).trans (((HB.out.cell (World.block_lt_of_cell? w _ hw466_10)).trans hw466_10))⟩ (fun hHeld => ?_)
                      clear hK K
                      refine norm_ (a' := ?_) ?_ ?_
                      rotate_left
                      · show Act.put _ (some 50) _ = _
                        simp only [Act.put, List.setIfInBounds_toArray, List.set_cons_zero, List.set_cons_succ, i64_w, i32_w]
                        rfl
                      refine one_ (i := 8) (N := some 51) #[true, true, true, true, true, true, true, true, true, false, false] rfl rfl (one_of HT_.out (by kernel_rfl)) (by decide) (fun K hK => ?_)
                      refine Kd.R_append_step k29 (w0 := w) w.heap.size (by rfl) (.tmp 44) (.tmp 50) 64 29 (.agg #[(.int .i64 0), (.int .i64 0), (.int .i64 0), (.bool false), (.int .i64 0), (.int .i64 0), (.int .i64 0), (.int .i64 0), (.int .i64 0), (.int .u32 0), (.int .i64 0)]) 88 rfl Try.underlying64 info29 rfl (by decide) (by omega) u462000 x462000_1 (⟨(⟨(rd_T29 l0_0 x8_1).f0.f0, (rd_T29 l0_0 x8_1).f0.f1, (rd_T29 l0_0 x8_1).f0.f2, (rd_T29 l0_0 x8_1).f0.f3⟩ : S23), (⟨(rd_T29 l0_0 x8_1).f1.f0, (rd_T29 l0_0 x8_1).f1.f1, (rd_T29 l0_0 x8_1).f1.f2⟩ : S25), (rd_T29 l0_0 x8_1).f2, (rd_T29 l0_0 x8_1).f3, (rd_T29 l0_0 x8_1).f4, (rd_T29 l0_0 x8_1).f5⟩ : S29) [.int .i64 ((rd_T29 l0_0 x8_1).f0.f0), .int .i64 ((rd_T29 l0_0 x8_1).f0.f1), .int .i64 ((rd_T29 l0_0 x8_1).f0.f2), .bool ((rd_T29 l0_0 x8_1).f0.f3), .int .i64 ((rd_T29 l0_0 x8_1).f1.f0), .int .i64 ((rd_T29 l0_0 x8_1).f1.f1), .int .i64 ((rd_T29 l0_0 x8_1).f1.f2), .int .i64 ((rd_T29 l0_0 x8_1).f2), .int .i64 ((rd_T29 l0_0 x8_1).f3), .int .u32 ((rd_T29 l0_0 x8_1).f4), .int .i64 ((rd_T29 l0_0 x8_1).f5)] (fun _ => True) (fun _ => False) rfl rfl ?aP (fun _ hk => hk.elim) ?aF ?aO ?aB ?aS ?aL ?_
                      (case aP => exact k29_mkM _ _ _ (⟨(⟨(rd_T29 l0_0 x8_1).f0.f0, (rd_T29 l0_0 x8_1).f0.f1, (rd_T29 l0_0 x8_1).f0.f2, (rd_T29 l0_0 x8_1).f0.f3⟩ : S23), (⟨(rd_T29 l0_0 x8_1).f1.f0, (rd_T29 l0_0 x8_1).f1.f1, (rd_T29 l0_0 x8_1).f1.f2⟩ : S25), (rd_T29 l0_0 x8_1).f2, (rd_T29 l0_0 x8_1).f3, (rd_T29 l0_0 x8_1).f4, (rd_T29 l0_0 x8_1).f5⟩ : S29))
                      (case aB => exact (by repeat (first | (with_reducible first | exact HB.out | apply below_alloc | apply pw_below_drewN | apply below_drew1 | refine below_set ?_ GE457.out | refine below_set ?_ GE458.out | refine below_set ?_ GE461.out) | exact HB.out)))
                      (case aF => exact (fun _ _ => trivial))
                      (case aO => exact (by (with_reducible repeat (first | apply Kd.R_alloc | apply Kd.R_drewN | apply Kd.R_drew)); exact HO_462000.out))
                      (case aS => exact (below_size (by repeat (first | (with_reducible first | exact HB.out | apply below_alloc | apply pw_below_drewN | apply below_drew1 | refine below_set ?_ GE457.out | refine below_set ?_ GE458.out | refine below_set ?_ GE461.out) | exact HB.out))))
                      (case aL => have := LMc57.out; omega)
                      intro v468 w62 ho hb hg hat
                      rw [← Ny467.out] at ho
                      have n0_ := Aside0.mk (blk_grown (g := gb457) (o := .cells #[.slice (some ad466) l0_0.length c0_0, .int .i64 a0_1] 66 (0, 0)) (by (with_reducible repeat (first | refine blk_drewN ?_ _ | refine blk_drew ?_ | refine blk_alloc ?_ _)); exact BK457.out) hg (Kd.R_ne HO_462000.out BK457.out (by decide)))
                      have n1_ := Aside0.mk (blk_grown (g := gb458) (o := .cells #[.slice none 0 0, .int .i64 0] 66 (0, 0)) (by (with_reducible repeat (first | refine blk_drewN ?_ _ | refine blk_drew ?_ | refine blk_alloc ?_ _)); exact BK458.out) hg (Kd.R_ne HO_462000.out BK458.out (by decide)))
                      have n2_ := Aside0.mk (blk_grown (g := gb461) (o := .cells #[u462000, .int .i64 x462001_1] 66 (0, 0)) (by (with_reducible repeat (first | refine blk_drewN ?_ _ | refine blk_drew ?_ | refine blk_alloc ?_ _)); exact BK461.out) hg (Kd.R_ne HO_462000.out BK461.out (by decide)))
                      have n3_ := Aside0.mk (hb)
                      have n4_ := Aside0.mk (ho)
                      clear BK457
                      clear BK458
                      clear BK461
                      clear HB
                      clear HO_462000
                      have BK457 := n0_
                      have BK458 := n1_
                      have BK461 := n2_
                      have HB := n3_
                      have HO469 := n4_
                      clear n0_ n1_ n2_ n3_ n4_
                      clear ho hb hg hat
                      obtain ⟨Ao63, co63, eo63⟩ := Kd.R_slice HO469.out
                      (first | subst eo63 | (injection eo63 with f1_ f2_ f3_; have f4_ := f1_.symm; have f5_ := f3_.symm; clear f1_ f2_ f3_; subst f4_; subst f5_))
                      refine hK.out _ _ ⟨(blk_cell BK461.out 0).trans rfl, (blk_cell BK461.out 1).trans rfl, (blk_cell BK457.out 0).trans rfl, (blk_cell BK457.out 1).trans rfl, ((HB.out.cell (World.block_lt_of_cell? w _ hw466_0)).trans hw466_0), ((HB.out.cell (World.block_lt_of_cell? w _ hw466_1)).trans hw466_1), ((HB.out.cell (World.block_lt_of_cell? w _ hw466_2)).trans hw466_2), ((HB.out.cell (World.block_lt_of_cell? w _ hw466_3)).trans hw466_3), ((HB.out.cell (World.block_lt_of_cell? w _ hw466_4)).trans hw466_4), ((HB.out.cell (World.block_lt_of_cell? w _ hw466_5)).trans hw466_5), ((HB.out.cell (World.block_lt_of_cell? w _ hw466_6)).trans hw466_6), ((HB.out.cell (World.block_lt_of_cell? w _ hw466_7)).trans hw466_7), ((HB.out.cell (World.block_lt_of_cell? w _ hw466_8)).trans hw466_8), ((HB.out.cell (World.block_lt_of_cell? w _ hw466_9)).trans hw466_9), ((HB.out.cell (World.block_lt_of_cell? w _ hw466_10)).trans hw466_10)⟩ (fun hHeld => ?_)
                      clear hK K
                      refine norm_ (a' := ?_) ?_ ?_
                      rotate_left
                      · show Act.put _ (some 51) _ = _
                        simp only [Act.put, List.setIfInBounds_toArray, List.set_cons_zero, List.set_cons_succ, i64_w, i32_w]
                        rfl
                      refine pure_ (i := 9) (N := some 52) (v := ?_) (a' := ?_) #[true, true, true, true, true, true, true, true, true, true, false] rfl rfl (any_of HT_.out (by kernel_rfl)) (fun _ _ _ h => h) (Or.inl ⟨by rfl, ?_⟩) ?_ ?_
                      rotate_left
                      · intro w'
                        go_simp
                        with_reducible rfl
                      rotate_left
                      · simp only [Act.put, List.setIfInBounds_toArray, List.set_cons_zero, List.set_cons_succ, i64_w, i32_w]
                        rfl
                      refine last_ (i := 10) (N := none) #[true, true, true, true, true, true, true, true, true, true, true] rfl rfl (one_of HT_.out (by kernel_rfl)) (by decide) (fun K hK => ?_)
                      have hs64 : w62.cell? ⟨gb461, 0, none⟩ = some (u462000) := (blk_cell BK461.out 0).trans rfl
                      have hfs64 := blk_frozen BK461.out 0
                      have hns64_0 := NB457_461.out
                      have hns64_1 := NB458_461.out
                      have hms64_0 := NB461_457.out
                      have hms64_1 := NB461_458.out
                      refine skip_ (w1 := ?_) (by rfl) rfl ?_ ?_
                      rotate_left
                      · go_simp
                        rfl
                      refine hK.out _ _ ?_
                      clear hK K
                      refine done_ (done_of HT_.out (by kernel_rfl)) ?_
                      try go_wp2
                      go_roundg k1
                      case measure => have := HK1.out; omega
                      case rel => exact ⟨(wrap64 (x8_1 + 1)), (y467), (x462001_1), (.slice Ao63 y467.length co63), (by first | rfl | (simp; done) | (simp [*]; done)), H', ⟨by have := HK1.out; omega⟩, ⟨by (with_reducible repeat (first | apply Kd.R_alloc | apply Kd.R_drewN | apply Kd.R_drew)); exact Kd.R_mono (Kd.R_far (p := ⟨gb461, 0, none⟩) (Kd.R_types HO469.out BK461.out (by decide)) (fun _ hk => hk.2) (.slice Ao63 y467.length co63)) (fun _ hk => trivial)⟩, ⟨by (with_reducible repeat (first | refine blk_drewN ?_ _ | refine blk_drew ?_ | refine blk_alloc ?_ _)); refine blk_far ?_ NB457_461.out _; (with_reducible repeat (first | refine blk_drewN ?_ _ | refine blk_drew ?_ | refine blk_alloc ?_ _)); exact BK457.out⟩, ⟨by (with_reducible repeat (first | refine blk_drewN ?_ _ | refine blk_drew ?_ | refine blk_alloc ?_ _)); refine blk_far ?_ NB458_461.out _; (with_reducible repeat (first | refine blk_drewN ?_ _ | refine blk_drew ?_ | refine blk_alloc ?_ _)); exact BK458.out⟩, ⟨by (with_reducible repeat (first | refine blk_drewN ?_ _ | refine blk_drew ?_ | refine blk_alloc ?_ _)); refine blk_put (cs := #[u462000, .int .i64 x462001_1]) ?_ 0 _ rfl; (with_reducible repeat (first | refine blk_drewN ?_ _ | refine blk_drew ?_ | refine blk_alloc ?_ _)); exact BK461.out⟩, ⟨by repeat (first | (with_reducible first | exact HB.out | apply below_alloc | apply pw_below_drewN | apply below_drew1 | refine below_set ?_ GE457.out | refine below_set ?_ GE458.out | refine below_set ?_ GE461.out) | exact HB.out)⟩⟩
                    · rw [if_neg c57] at H
                      exact absurd H (by simp)
                  · rw [if_neg c56] at H
                    exact absurd H (by simp)
            · rw [if_neg c37] at H
              have c37b0 : decide (x8_1 < (l0_0.length : Int)) = false := decide_eq_false c37
              clear c37
              simp only [Option.some.injEq, Prod.mk.injEq] at H
              obtain ⟨rfl, rfl, rfl⟩ := H
              have hnb65 := NB457_458.out
              have hnc65 := NB458_457.out
              have hnb66 := NB457_461.out
              have hnc66 := NB461_457.out
              have hcz67_0 : wr.cell? ⟨gb457, 0, none⟩ = some (.slice A0_0 l0_0.length c0_0) := (blk_cell BK457.out 0).trans rfl
              have hcz67_1 : wr.cell? ⟨gb457, 1, none⟩ = some (.int .i64 a0_1) := (blk_cell BK457.out 1).trans rfl
              have hfz67_0 := blk_frozen BK457.out 0
              have hfz67_1 := blk_frozen BK457.out 1
              have hnb68 := NB461_458.out
              have hnc68 := NB458_461.out
              have hcz69_0 : wr.cell? ⟨gb461, 0, none⟩ = some (u462000) := (blk_cell BK461.out 0).trans rfl
              have hcz69_1 : wr.cell? ⟨gb461, 1, none⟩ = some (.int .i64 x462001_1) := (blk_cell BK461.out 1).trans rfl
              have hfz69_0 := blk_frozen BK461.out 0
              have hfz69_1 := blk_frozen BK461.out 1
              obtain ⟨Ao70, co70, eo70⟩ := Kd.R_slice HO_462000.out
              subst eo70
              have hcz71_0 : wr.cell? ⟨gb458, 0, none⟩ = some (.slice none 0 0) := (blk_cell BK458.out 0).trans rfl
              have hcz71_1 : wr.cell? ⟨gb458, 1, none⟩ = some (.int .i64 0) := (blk_cell BK458.out 1).trans rfl
              have hfz71_0 := blk_frozen BK458.out 0
              have hfz71_1 := blk_frozen BK458.out 1
              go_wp2
              refine bodyPost_ret (results_ct rfl _ _ gb458 66 #[.slice Ao70 x462000_1.length co70, .int .i64 x462001_1] (0, 0) _ rfl (by (with_reducible repeat (first | refine blk_drewN ?_ _ | refine blk_drew ?_ | refine blk_alloc ?_ _)); refine blk_put (cs := #[.slice Ao70 x462000_1.length co70, .int .i64 0]) ?_ 1 _ rfl; (with_reducible repeat (first | refine blk_drewN ?_ _ | refine blk_drew ?_ | refine blk_alloc ?_ _)); refine blk_put (cs := #[.slice none 0 0, .int .i64 0]) ?_ 0 _ rfl; (with_reducible repeat (first | refine blk_drewN ?_ _ | refine blk_drew ?_ | refine blk_alloc ?_ _)); exact BK458.out) Try.underlying66 rfl (by kernel_rfl)) rfl ?_
              exact ⟨_, by first | rfl | (simp [errW_none, errW_some] <;> rfl) | (simp [*, errW_none, errW_some] <;> rfl), by (with_reducible repeat (first | apply Kd.R_alloc | apply Kd.R_drewN | apply Kd.R_drew)); exact Kd.R_mono (Kd.R_far (p := ⟨gb458, 1, none⟩) (Kd.R_far (p := ⟨gb458, 0, none⟩) (Kd.R_types HO_462000.out BK458.out (by decide)) (fun _ hk => hk.2) (.slice Ao70 x462000_1.length co70)) (fun _ hk => hk.2) (.int .i64 x462001_1)) (fun _ hk => trivial), by repeat (first | (with_reducible first | exact HB.out | apply below_alloc | apply pw_below_drewN | apply below_drew1 | refine below_set ?_ GE457.out | refine below_set ?_ GE458.out | refine below_set ?_ GE461.out) | exact HB.out)⟩
  · replace c4 := Bool.eq_false_iff.mpr c4
    subst c4
    have H1 : (some (([] : List (S29)), 0, 1)) = some (r1, r2, r3) := by rw [if_neg (show ¬ (false = true) by decide)] at H; exact H
    clear H
    have H := H1
    clear H1
    simp only [Option.some.injEq, Prod.mk.injEq] at H
    obtain ⟨rfl, rfl, rfl⟩ := H
    go_enter Try.func59, Try.ntmps59
    go_wp2_with (first | ((with_reducible refine gate_dst (N := 2) rfl ?_); refine box_event ?hg (N := 2) ?hd (cs := #[.slice A0_0 l0_0.length c0_0, .int .i64 a0_1]) (t := 66) ?hr ?_; (case hd => rfl); (case hg => rfl); (case hr => first | (go_simp; done) | (go_simp; rfl)); intro gb457 hg w72 hbox hb; have n0_ := Aside0.mk (below_step (by repeat (first | (with_reducible first | exact HB.out | apply below_alloc | apply pw_below_drewN | apply below_drew1) | exact HB.out)) hb); have n1_ := Aside0.mk (hbox); have n2_ := Aside0.mk ((by rw [hg]; exact (below_size (by repeat (first | (with_reducible first | exact HB.out | apply below_alloc | apply pw_below_drewN | apply below_drew1) | exact HB.out))) : w.heap.size ≤ gb457)); have n3_ := Aside0.mk ((by rw [hg]; exact (below_size (by repeat (first | (with_reducible first | exact HB.out | apply below_alloc | apply pw_below_drewN | apply below_drew1) | exact HB.out))) : w.heap.size ≤ gb457)); clear HB; have HB := n0_; have BK457 := n1_; have GW457 := n2_; have GE457 := n3_; clear n0_ n1_ n2_ n3_; clear hb hbox hg) | ((with_reducible refine gate_dst (N := 4) rfl ?_); refine box_event ?hg (N := 4) ?hd (cs := #[.slice none 0 0, .int .i64 0]) (t := 66) ?hr ?_; (case hd => rfl); (case hg => rfl); (case hr => first | (go_simp; done) | (go_simp; rfl)); intro gb458 hg w73 hbox hb; have n0_ := Aside0.mk (blk_below (g := gb457) (o := .cells #[.slice A0_0 l0_0.length c0_0, .int .i64 a0_1] 66 (0, 0)) (by (with_reducible repeat (first | refine blk_drewN ?_ _ | refine blk_drew ?_ | refine blk_alloc ?_ _)); exact BK457.out) hb); have n1_ := Aside0.mk (below_step (by repeat (first | (with_reducible first | exact HB.out | apply below_alloc | apply pw_below_drewN | apply below_drew1 | refine below_set ?_ GE457.out) | exact HB.out)) hb); have n2_ := Aside0.mk (hbox); have n3_ := Aside0.mk ((by rw [hg]; exact (below_size (by repeat (first | (with_reducible first | exact HB.out | apply below_alloc | apply pw_below_drewN | apply below_drew1 | refine below_set ?_ GE457.out) | exact HB.out))) : w.heap.size ≤ gb458)); have n4_ := Aside0.mk ((by rw [hg]; exact (below_size (by repeat (first | (with_reducible first | exact HB.out | apply below_alloc | apply pw_below_drewN | apply below_drew1 | refine below_set ?_ GE457.out) | exact HB.out))) : w.heap.size ≤ gb458)); have n5_ := Aside0.mk ((by rw [hg]; exact Nat.ne_of_lt (blk_lt (g := gb457) (o := .cells #[.slice A0_0 l0_0.length c0_0, .int .i64 a0_1] 66 (0, 0)) (by (with_reducible repeat (first | refine blk_drewN ?_ _ | refine blk_drew ?_ | refine blk_alloc ?_ _)); exact BK457.out)) : gb457 ≠ gb458)); have n6_ := Aside0.mk ((by rw [hg]; exact Nat.ne_of_gt (blk_lt (g := gb457) (o := .cells #[.slice A0_0 l0_0.length c0_0, .int .i64 a0_1] 66 (0, 0)) (by (with_reducible repeat (first | refine blk_drewN ?_ _ | refine blk_drew ?_ | refine blk_alloc ?_ _)); exact BK457.out)) : gb458 ≠ gb457)); clear BK457; clear HB; have BK457 := n0_; have HB := n1_; have BK458 := n2_; have GW458 := n3_; have GE458 := n4_; have NB457_458 := n5_; have NB458_457 := n6_; clear n0_ n1_ n2_ n3_ n4_ n5_ n6_; clear hb hbox hg; have hnb74 := NB457_458.out; have hnc74 := NB458_457.out; have hcz75_0 : w73.cell? ⟨gb457, 0, none⟩ = some (.slice A0_0 l0_0.length c0_0) := (blk_cell BK457.out 0).trans rfl; have hcz75_1 : w73.cell? ⟨gb457, 1, none⟩ = some (.int .i64 a0_1) := (blk_cell BK457.out 1).trans rfl; have hfz75_0 := blk_frozen BK457.out 0; have hfz75_1 := blk_frozen BK457.out 1) | ((with_reducible refine gate_callee (f := 53) rfl ?_); refine goesL_ (some 10) rfl rfl Try.func53 (by kernel_rfl) rfl #[.agg #[.slice A0_0 l0_0.length c0_0, .int .i64 a0_1]] rfl (by (try simp only [List.map_toArray, List.map_cons, List.map_nil]); first | done | rfl | (simp only [List.length_drop, List.length_take]; rfl)) ?_; (with_reducible refine (weftlineref14_Good.calls k _ _ l0_0 a0_1 false _ ?side1 ?side2 A3.out).mono ?_); (case side1 => repeat (first | exact (Kd.C_below HR0_0.out HB.out) | (with_reducible refine Kd.C_alloc ?_ _) | (with_reducible refine Kd.C_drewN ?_ _) | (with_reducible refine Kd.C_drew ?_))); (case side2 => exact HC0_0.out); rintro e w76 ⟨rfl, hb⟩; refine ⟨_, rfl, ?_⟩; have n0_ := Aside0.mk (blk_below (g := gb457) (o := .cells #[.slice A0_0 l0_0.length c0_0, .int .i64 a0_1] 66 (0, 0)) (by (with_reducible repeat (first | refine blk_drewN ?_ _ | refine blk_drew ?_ | refine blk_alloc ?_ _)); exact BK457.out) hb); have n1_ := Aside0.mk (blk_below (g := gb458) (o := .cells #[.slice none 0 0, .int .i64 0] 66 (0, 0)) (by (with_reducible repeat (first | refine blk_drewN ?_ _ | refine blk_drew ?_ | refine blk_alloc ?_ _)); exact BK458.out) hb); have n2_ := Aside0.mk (below_step (by repeat (first | (with_reducible first | exact HB.out | apply below_alloc | apply pw_below_drewN | apply below_drew1 | refine below_set ?_ GE457.out | refine below_set ?_ GE458.out) | exact HB.out)) hb); clear BK457; clear BK458; clear HB; have BK457 := n0_; have BK458 := n1_; have HB := n2_; clear n0_ n1_ n2_; (try clear hb); (try clear hb2); (try clear hk); (try clear hi); have hcz77_0 : w76.cell? ⟨gb458, 0, none⟩ = some (.slice none 0 0) := (blk_cell BK458.out 0).trans rfl; have hcz77_1 : w76.cell? ⟨gb458, 1, none⟩ = some (.int .i64 0) := (blk_cell BK458.out 1).trans rfl; have hfz77_0 := blk_frozen BK458.out 0; have hfz77_1 := blk_frozen BK458.out 1))
    refine bodyPost_ret (results_ct rfl _ _ gb458 66 #[.slice none 0 0, .int .i64 0] (0, 0) _ rfl (by (with_reducible repeat (first | refine blk_drewN ?_ _ | refine blk_drew ?_ | refine blk_alloc ?_ _)); refine blk_put (cs := #[.slice none 0 0, .int .i64 0]) ?_ 1 _ rfl; (with_reducible repeat (first | refine blk_drewN ?_ _ | refine blk_drew ?_ | refine blk_alloc ?_ _)); refine blk_put (cs := #[.slice none 0 0, .int .i64 0]) ?_ 0 _ rfl; (with_reducible repeat (first | refine blk_drewN ?_ _ | refine blk_drew ?_ | refine blk_alloc ?_ _)); exact BK458.out) Try.underlying66 rfl (by kernel_rfl)) rfl ?_
    exact ⟨_, by first | rfl | (simp [errW_none, errW_some] <;> rfl) | (simp [*, errW_none, errW_some] <;> rfl), by first | exact Kd.R_nil _ _ _ _ _ | exact Kd.N_nil _ _ _ _ _ | exact Kd.V_nil _ _ _ _ _ | exact Kd.Q_nil _ _ _ _ _ | exact Kd.S_nil _ _ _ _ _, by repeat (first | (with_reducible first | exact HB.out | apply below_alloc | apply pw_below_drewN | apply below_drew1 | refine below_set ?_ GE457.out | refine below_set ?_ GE458.out) | exact HB.out)⟩

end Go.Proofs.Ytblooffiggciiaa.PPs
/- PsAo -/
namespace Go.Proofs.Ytblooffiggciiaa.Ps
open Go.RowKit Go.Proofs.Ytblooffiggciiaa.PPs Go.Proofs.YtblooffiggciiaaW.PrintWords Go.Proofs.YtblooffiggciiaaW.PrintLast Go.Proofs.YtblooffiggciiaaW.PrintMore Go.Proofs.Ytblooffiggciiaa.Sh
theorem gdb_len {l : List S34} {p : Int} (h : gdb l p = true) : l.length ≤ 4 := by
  unfold gdb at h
  simp only [Bool.and_eq_true, decide_eq_true_eq] at h
  exact h.1.1.1
theorem gdb_G {l : List S34} {p : Int} (h : gdb l p = true) {x : S34} (hx : x ∈ l) : G x := by
  unfold gdb at h
  simp only [Bool.and_eq_true, Bool.not_eq_true', List.any_eq_false] at h
  have := h.2 x hx
  simpa using this
theorem add_f {l : List S29} {p a : Int} {k : Nat} (hl : l.length ≤ 1000) (hk : 2 * l.length + 6 < k) : weftlineref14_Add.f k l p a = some (ans (addL (l.map cv) p a)) := by
  obtain ⟨k2, rfl⟩ : ∃ k2, k = k2 + 1 := ⟨k - 1, by omega⟩
  have hE : weftlineref14_Add.j0 (k2 + 1) a true l p = some (ans ([], 0, some 1)) := by rw [weftlineref14_Add.j0, if_pos rfl]; rfl
  unfold weftlineref14_Add.f addL
  rw [good_f hl (by omega), refaddr_eq]
  show (if gdb (l.map cv) p = true then _ else _) = _
  by_cases hg : gdb (l.map cv) p = true
  · rw [if_pos hg]
    by_cases ha : addrP a
    · rw [if_pos ⟨ha, hg⟩, decide_eq_true ha]
      show weftlineref14_Add.j0 (k2 + 1) a false l p = _
      rw [weftlineref14_Add.j0, if_neg (by simp), find_f hl (by omega)]
      show (if plc (l.map cv) a ≥ 0 then _ else _) = _
      by_cases h0 : 0 ≤ plc (l.map cv) a
      · rw [if_pos h0, if_pos h0]; rfl
      · rw [if_neg h0, if_neg h0]
        have h4 := gdb_len hg
        rw [List.length_map] at h4 ⊢
        by_cases h5 : 4 ≤ l.length
        · rw [if_pos (by omega), if_pos h5]; rfl
        · rw [if_neg (by omega), if_neg h5]
          simp only [Option.bind_some, List.nil_append, List.length_nil, Nat.zero_add]
          rw [if_pos (by omega)]
          show (weftlineref13_New.f a).bind _ = _
          have e : weftlineref13_New.f a = some (tp (newS a)) := rfl
          rw [e]
          simp only [Option.bind_some]
          rw [if_pos (by omega)]
          unfold ans
          rw [List.map_append, map_vc]
          rfl
    · rw [if_neg (fun h => ha h.1), decide_eq_false ha]; exact hE
  · rw [if_neg hg, if_neg (fun h => hg h.2)]; exact hE
theorem del_l (l : List S29) (p : Int) (i : Nat) (hl : l.length ≤ 1000) (hi : i < l.length) : ∀ (n j k : Nat) (acc : List S29) (q : Int), j + n = l.length → n < k → acc.length = j - (if i < j then 1 else 0) →
    weftlineref14_Delete.l0 k (i : Int) (j : Int) l p acc q = some (acc ++ (if j ≤ i then (l.drop j).eraseIdx (i - j) else l.drop j), (if (j : Int) ≤ p ∧ p < l.length ∧ p ≠ i then p - (if (i : Int) < p then 1 else 0) else q), 0)
  | 0, j, k + 1, acc, q, h, _, _ => by
    have : j = l.length := by omega
    subst this
    rw [weftlineref14_Delete.l0, if_neg (by omega), if_neg (by omega), if_neg (by omega), List.drop_eq_nil_of_le (Nat.le_refl _), List.append_nil]
  | n + 1, j, k + 1, acc, q, h, hk, ha => by
    have hj : j < l.length := by omega
    have hd : l.drop j = l[j] :: l.drop (j + 1) := List.drop_eq_getElem_cons hj
    rw [weftlineref14_Delete.l0, if_pos (by omega)]
    by_cases hij : j = i
    · subst hij
      rw [if_pos rfl, next_i j (by omega), del_l l p j hl hi n (j + 1) k acc q (by omega) (by omega) (by rw [ha, if_neg (by omega), if_pos (by omega)]; omega)]
      rw [if_neg (show ¬ (j + 1 ≤ j) by omega), if_pos (Nat.le_refl j), Nat.sub_self, hd, List.eraseIdx_zero, List.tail_cons]
      congr 3
      have : ((((j + 1 : Nat) : Int) ≤ p ∧ p < (l.length : Int) ∧ p ≠ (j : Int)) ↔ ((j : Int) ≤ p ∧ p < (l.length : Int) ∧ p ≠ (j : Int))) := by omega
      simp only [this]
    · have hr : (if j ≤ i then (l.drop j).eraseIdx (i - j) else l.drop j) = l[j] :: (if j + 1 ≤ i then (l.drop (j + 1)).eraseIdx (i - (j + 1)) else l.drop (j + 1)) := by
        by_cases hlt : j < i
        · rw [if_pos (by omega), if_pos (by omega), hd, show i - j = (i - (j + 1)) + 1 by omega, List.eraseIdx_cons_succ]
        · rw [if_neg (by omega), if_neg (by omega), hd]
      have hac : ∀ x : S29, (acc ++ [x]).length = j + 1 - (if i < j + 1 then 1 else 0) := fun x => by
        rw [List.length_append, ha]
        by_cases hlt : j < i
        · rw [if_neg (by omega), if_neg (by omega)]; simp
        · rw [if_pos (by omega), if_pos (by omega)]; simp; omega
      have hal : acc.length < 1599289640401 := by omega
      rw [if_neg (by omega), if_pos (show 0 ≤ (j : Int) by omega), if_pos hal, if_pos (show 0 ≤ (j : Int) by omega), if_pos hal, next_i j (by omega), rd29 l j hj]
      rw [del_l l p i hl hi n (j + 1) k _ _ (by omega) (by omega) (hac _), del_l l p i hl hi n (j + 1) k _ _ (by omega) (by omega) (hac _)]
      rw [hr, List.append_assoc]
      by_cases hp : (j : Int) = p
      · rw [if_pos hp]
        refine congrArg some (Prod.ext rfl (Prod.ext ?_ rfl))
        show (if ((j + 1 : Nat) : Int) ≤ p ∧ p < (l.length : Int) ∧ p ≠ (i : Int) then _ else ((acc.length : Nat) : Int)) = (if (j : Int) ≤ p ∧ p < (l.length : Int) ∧ p ≠ (i : Int) then p - (if (i : Int) < p then 1 else 0) else q)
        rw [if_neg (show ¬ (((j + 1 : Nat) : Int) ≤ p ∧ p < (l.length : Int) ∧ p ≠ (i : Int)) by omega), if_pos (show (j : Int) ≤ p ∧ p < (l.length : Int) ∧ p ≠ (i : Int) by omega), ha]
        by_cases hlt : i < j
        · rw [if_pos hlt, if_pos (by omega)]; omega
        · rw [if_neg hlt, if_neg (by omega)]; omega
      · rw [if_neg hp]
        have : ((((j + 1 : Nat) : Int) ≤ p ∧ p < (l.length : Int) ∧ p ≠ (i : Int)) ↔ ((j : Int) ≤ p ∧ p < (l.length : Int) ∧ p ≠ (i : Int))) := by omega
        simp only [this]
        rfl
theorem map_vc_erase (l : List S29) (i : Nat) : ((l.map cv).eraseIdx i).map vc = l.eraseIdx i := by
  rw [List.eraseIdx_eq_take_drop_succ, List.map_append, List.map_take, List.map_drop, map_vc, List.eraseIdx_eq_take_drop_succ]
theorem delete_f {l : List S29} {p a : Int} {k : Nat} (hl : l.length ≤ 1000) (hk : 2 * l.length + 4 < k) : weftlineref14_Delete.f k l p a = some (ans (delL (l.map cv) p a)) := by
  unfold weftlineref14_Delete.f delL fnd
  rw [good_f hl (by omega), find_f hl (by omega)]
  show (if gdb (l.map cv) p = true then _ else _) = _
  by_cases hg : gdb (l.map cv) p = true
  · have hp := gdb_in hg
    rw [List.length_map] at hp
    rw [if_pos hg, if_pos hg]
    rcases plc_at (l.map cv) a with h | ⟨i, hi, h, _⟩
    · rw [h]; rfl
    · rw [List.length_map] at hi
      have hn : ¬ ((i : Int) < 0) := by omega
      rw [h]
      simp only [hn, ↓reduceIte, Option.bind_some, List.length_map, Int.toNat_natCast]
      by_cases h1 : l.length = 1
      · rw [if_pos (by omega), if_pos h1]; rfl
      · rw [if_neg (by omega), if_neg h1]
        have := del_l l p i hl hi l.length 0 k [] 0 (by omega) (by omega) (by simp)
        rw [show ((0 : Nat) : Int) = 0 from rfl] at this
        rw [this]
        unfold ans
        rw [map_vc_erase, if_pos (Nat.zero_le i), List.drop_zero, Nat.sub_zero, List.nil_append]
        refine congrArg some (Prod.ext rfl (Prod.ext ?_ rfl))
        show (if (0 : Int) ≤ p ∧ p < (l.length : Int) ∧ p ≠ (i : Int) then p - (if (i : Int) < p then 1 else 0) else 0) = (if (i : Int) = p then 0 else if (i : Int) < p then p - 1 else p)
        by_cases hip : (i : Int) = p
        · rw [if_pos hip, if_neg (by omega)]
        · rw [if_neg hip, if_pos (by omega)]
          split <;> omega
  · rw [if_neg hg, if_neg hg]; rfl
section
variable {w : World} {A : Option Addr} {c : Nat}
theorem radd_calls {l : List S29} (hC : Kd.C k29 w A l.length l) (hcc : l.length ≤ c) (hl : l.length ≤ 1000) (p a : Int) (r : List S34 × Int × Option Int) (hr : r = addL (l.map cv) p a) :
    Calls Try.prog 57 #[.agg #[.slice A l.length c, .int .i64 p], .int .i64 a] w fun e w' => ∃ v, e = .returned (.tuple #[.agg #[v, .int .i64 r.2.1], .int .i64 (erN r.2.2)]) ∧ Kd.R k29 29 w' w.heap.size (fun _ => True) v (r.1.map vc) ∧ Below w.heap.size w w' := by
  rw [hr]; exact weftlineref14_Add.calls (2 * l.length + 7) A c l p a _ _ _ w hC hcc (add_f hl (by omega))
theorem rdel_calls {l : List S29} (hC : Kd.C k29 w A l.length l) (hcc : l.length ≤ c) (hl : l.length ≤ 1000) (p a : Int) (r : List S34 × Int × Option Int) (hr : r = delL (l.map cv) p a) :
    Calls Try.prog 59 #[.agg #[.slice A l.length c, .int .i64 p], .int .i64 a] w fun e w' => ∃ v, e = .returned (.tuple #[.agg #[v, .int .i64 r.2.1], .int .i64 (erN r.2.2)]) ∧ Kd.R k29 29 w' w.heap.size (fun _ => True) v (r.1.map vc) ∧ Below w.heap.size w w' := by
  rw [hr]; exact weftlineref14_Delete.calls (2 * l.length + 5) A c l p a _ _ _ w hC hcc (delete_f hl (by omega))
end
end Go.Proofs.Ytblooffiggciiaa.Ps
/- PsAp -/
namespace Go.Proofs.Ytblooffiggciiaa.Ps
open Go.RowKit Go.Proofs.Ytblooffiggciiaa.PPs Go.Proofs.YtblooffiggciiaaW.PrintWords Go.Proofs.YtblooffiggciiaaW.PrintLast Go.Proofs.YtblooffiggciiaaW.PrintMore Go.Proofs.Ytblooffiggciiaa.Sh
attribute [local go_sem] Go.Proofs.Ytblooffiggciiaa.Aid.isSome_setCell
theorem put2g {W : World} {g t : Nat} {x y v : Value} {q : Value} (h : W.heap[g]? = some (.cells #[x, y] t (0, 0))) : ((W.setCell ⟨g, 0, none⟩ v).setCell ⟨g, 1, none⟩ q).heap[g]? = some (.cells #[v, q] t (0, 0)) :=
  blk_put (blk_put h 0 v rfl) 1 q rfl
theorem rfind_calls {w : World} {A : Option Addr} {c : Nat} {l : List S29} (hC : Kd.C k29 w A l.length l) (hcc : l.length ≤ c) (hl : l.length ≤ 1000) (p a : Int) :
    Calls Try.prog 83 #[.agg #[.slice A l.length c, .int .i64 p], .int .i64 a] w fun e w' => e = .returned (.int .i64 (plc (l.map cv) a)) ∧ Below w.heap.size w w' :=
  weftlineref14_find.calls (l.length + 1) A c l p a _ w hC hcc (find_f hl (by omega))
end Go.Proofs.Ytblooffiggciiaa.Ps
/- PsAs -/
namespace Go.Proofs.Ytblooffiggciiaa.Ps
open Go.RowKit Go.Proofs.Ytblooffiggciiaa.PPs Go.Proofs.YtblooffiggciiaaW.PrintWords Go.Proofs.YtblooffiggciiaaW.PrintLast Go.Proofs.YtblooffiggciiaaW.PrintMore Go.Proofs.Ytblooffiggciiaa.Sh
attribute [local go_sem] Go.Proofs.Ytblooffiggciiaa.Aid.isSome_setCell
theorem rset_calls {w : World} {A : Option Addr} {c : Nat} {l : List S29} (hC : Kd.C k29 w A l.length l) (hcc : l.length ≤ c) (hl : l.length ≤ 1000) (p : Int) (i : Nat) (hi : i < l.length) (y : S34) :
    Calls Try.prog 84 #[.agg #[.slice A l.length c, .int .i64 p], .int .i64 i, .agg #[.int .i64 y.f0.f0, .int .i64 y.f0.f1, .int .i64 y.f0.f2, .bool y.f0.f3, .int .i64 y.f1.f0, .int .i64 y.f1.f1, .int .i64 y.f1.f2, .int .i64 y.f2, .int .i64 y.f3, .int .u32 y.f4, .int .i64 y.f5]] w fun e w' => ∃ v, e = .returned (.agg #[v, .int .i64 p]) ∧ Kd.R k29 29 w' w.heap.size (fun _ => True) v (l.set i (vc y)) ∧ Below w.heap.size w w' := by
  refine weftlineref14_set.calls A c l p i _ _ _ _ _ _ _ _ _ _ _ _ _ w hC hcc ?_
  unfold weftlineref14_set.f
  simp only [Option.bind_some, List.nil_append, List.length_nil, Nat.zero_add]
  rw [if_pos (by omega), if_pos (by omega), if_pos (by omega)]
  simp only [Int.toNat_natCast]
  rfl
theorem raddr_calls (a : Int) (w : World) : Calls Try.prog 14 #[.int .i64 a] w fun e w' => e = .returned (.bool (decide (addrP a))) ∧ Below w.heap.size w w' :=
  (weftlineref13_Addr.calls a _ w (refaddr_eq a)).mono fun e w' ⟨h1, n, h2⟩ => ⟨h1, by rw [h2]; exact pw_below_drewN (Below.refl _ _) n⟩
set_option maxHeartbeats 4000000 in
set_option maxRecDepth 100000 in
theorem rmove_hand {w : World} {A : Option Addr} {c : Nat} {l : List S29} (hC : Kd.C k29 w A l.length l) (hcc : l.length ≤ c) (hl : l.length ≤ 1000) (p a b : Int) (r : List S34 × Int × Option Int) (hr : r = moveL (l.map cv) p a b) :
    Calls Try.prog 63 #[.agg #[.slice A l.length c, .int .i64 p], .int .i64 a, .int .i64 b] w fun e w' => ∃ v, e = .returned (.tuple #[.agg #[v, .int .i64 r.2.1], .int .i64 (erN r.2.2)]) ∧ Kd.R k29 29 w' w.heap.size (fun _ => True) v (r.1.map vc) ∧ Below w.heap.size w w' := by
  have hB := b1 (b1 (Below.refl w.heap.size w) (.cells #[.slice A l.length c, .int .i64 p] 66)) (.cells #[.slice none 0 0, .int .i64 0] 66)
  have hL := ((BL.nil w).new (.cells #[.slice A l.length c, .int .i64 p] 66)).new (.cells #[.slice none 0 0, .int .i64 0] 66)
  rw [sz1] at hL
  have HC := Aside0.mk hC
  have HB := Aside0.mk hB
  have HL := Aside0.mk hL
  have HG := Aside0.mk (rgood_calls (Kd.C_below HC.out hB) hcc hl p)
  have hx := ck2 (HL.out.get 0 rfl)
  have hs : w.heap.size ≤ w.heap.size + 1 := by omega
  have HR := Aside0.mk hr
  clear hB hL hC hr
  go_enter Try.func63, Try.ntmps63
  go_wp2_with fail
  refine HG.out.mono ?_
  rintro e w1 ⟨rfl, hb⟩
  have HL1 := Aside0.mk (HL.out.below hb)
  have HB1 := Aside0.mk (below_step HB.out hb)
  clear hb hx HG
  have hx := ck2 (HL1.out.get 0 rfl)
  have hz := cc2 (HL1.out.get 1 rfl)
  cases hg : gdb (l.map cv) p with
  | false =>
    have HR2 := Aside0.mk (show r = ([], 0, some 1) by rw [HR.out]; unfold moveL fnd; rw [hg, if_neg (by simp)])
    clear hg
    go_wp2_with fail
    refine bodyPost_ret (results_ct rfl _ _ (w.heap.size + 1) 66 #[.slice none 0 0, .int .i64 0] (0, 0) _ rfl (put2g (HL1.out.get 1 rfl)) Try.underlying66 rfl (by kernel_rfl)) rfl ?_
    rw [HR2.out]
    exact ⟨_, rfl, Kd.R_nil _ _ _ _ _, bel2 HB1.out hs⟩
  | true =>
    have HF := Aside0.mk (rfind_calls (Kd.C_below HC.out HB1.out) hcc hl p a)
    go_wp2_with fail
    refine HF.out.mono ?_
    rintro e w2 ⟨rfl, hb⟩
    have HL2 := Aside0.mk (HL1.out.below hb)
    have HB2 := Aside0.mk (below_step HB1.out hb)
    clear hb hx hz HF
    have hx := ck2 (HL2.out.get 0 rfl)
    have hz := cc2 (HL2.out.get 1 rfl)
    rcases plc_at (l.map cv) a with h | ⟨i, hi, h, _⟩
    · have HR2 := Aside0.mk (show r = ([], 0, some 4) by rw [HR.out]; unfold moveL fnd; rw [hg, if_pos rfl, h]; rfl)
      rw [h]
      clear hg h
      go_wp2_with fail
      refine bodyPost_ret (results_ct rfl _ _ (w.heap.size + 1) 66 #[.slice none 0 0, .int .i64 0] (0, 0) _ rfl (put2g (HL2.out.get 1 rfl)) Try.underlying66 rfl (by kernel_rfl)) rfl ?_
      rw [HR2.out]
      exact ⟨_, rfl, Kd.R_nil _ _ _ _ _, bel2 HB2.out hs⟩
    · have hGi : G ((l.map cv).getD i z34) := gdb_G hg (by
        rw [List.getD_eq_getElem?_getD, List.getElem?_eq_getElem hi]
        exact List.getElem_mem hi)
      rw [List.length_map] at hi
      obtain ⟨y, hy⟩ : ∃ y, y = (l.map cv).getD i z34 := ⟨_, rfl⟩
      rw [← hy] at hGi
      have HR2 := Aside0.mk (show r = (if addrP b then (if 0 ≤ plc (l.map cv) b ∧ plc (l.map cv) b ≠ (i : Int) then ([], 0, some 12) else ((l.map cv).set i (toS y b), p, none)) else ([], 0, some 1)) by
        rw [HR.out]; unfold moveL fnd
        rw [hg, if_pos rfl, h, if_neg (show ¬ ((i : Int) < 0) by omega)]
        simp only [Int.toNat_natCast, ← hy, hGi, true_and])
      have HY := Aside0.mk hy
      have HAd := Aside0.mk (raddr_calls b w2)
      rw [h]
      clear hg h hGi hy
      have hi0 : ¬ ((i : Int) < 0) := by omega
      have hi1 : (i : Int) < (l.length : Int) := by omega
      by_cases ha : addrP b
      · rw [decide_eq_true ha] at HAd
        rw [if_pos ha] at HR2
        clear ha
        go_wp2_with fail
        refine HAd.out.mono ?_
        rintro e w3 ⟨rfl, hb⟩
        have HL3 := Aside0.mk (HL2.out.below hb)
        have HB3 := Aside0.mk (below_step HB2.out hb)
        clear hb hx hz HAd
        have hx := ck2 (HL3.out.get 0 rfl)
        have hz := cc2 (HL3.out.get 1 rfl)
        have HF := Aside0.mk (rfind_calls (Kd.C_below HC.out HB3.out) hcc hl p b)
        go_wp2_with fail
        refine HF.out.mono ?_
        rintro e w4 ⟨rfl, hb⟩
        have HL4 := Aside0.mk (HL3.out.below hb)
        have HB4 := Aside0.mk (below_step HB3.out hb)
        clear hb hx hz HF
        have hx := ck2 (HL4.out.get 0 rfl)
        have hz := cc2 (HL4.out.get 1 rfl)
        obtain ⟨q, hq⟩ : ∃ q, q = plc (l.map cv) b := ⟨_, rfl⟩
        rw [← hq] at HR2 ⊢
        clear hq
        by_cases hd : 0 ≤ q ∧ q ≠ (i : Int)
        · rw [if_pos hd] at HR2
          have d1 : decide (0 ≤ q) = true := decide_eq_true hd.1
          have d2 : (q == (i : Int)) = false := beq_eq_false_iff_ne.mpr hd.2
          have d3 := hd.1
          have d4 : ¬ (q = (i : Int)) := hd.2
          clear hd
          go_wp2_with fail
          refine bodyPost_ret (results_ct rfl _ _ (w.heap.size + 1) 66 #[.slice none 0 0, .int .i64 0] (0, 0) _ rfl (put2g (HL4.out.get 1 rfl)) Try.underlying66 rfl (by kernel_rfl)) rfl ?_
          rw [HR2.out]
          exact ⟨_, rfl, Kd.R_nil _ _ _ _ _, bel2 HB4.out hs⟩
        · rw [if_neg hd] at HR2
          have HQ := Aside0.mk hd
          clear hd
          have HCc := Aside0.mk (C_cv (Kd.C_below HC.out HB4.out))
          obtain ⟨ad, rfl, h0, h1, h2, h3, h4, h5, h6, h7, h8, h9, h10⟩ := at_T34 HCc.out (i : Int) (by omega) (by omega)
          have hyy : rd_T34 (l.map cv) (i : Int) = y := by rw [HY.out]; unfold rd_T34; rw [Int.toNat_natCast]
          rw [hyy] at h0 h1 h2 h3 h4 h5 h6 h7 h8 h9 h10
          rw [Int.toNat_natCast] at h0 h1 h2 h3 h4 h5 h6 h7 h8 h9 h10
          have HL5 := Aside0.mk (HL4.out.new (.cells (cs34 (toS y b)).toArray 29))
          have HB5 := Aside0.mk (b1 HB4.out (.cells (cs34 (toS y b)).toArray 29))
          have KS := Aside0.mk (rset_calls (w := w4.alloc (.cells (cs34 (toS y b)).toArray 29)) (Kd.C_alloc (Kd.C_below HC.out HB4.out) (.cells (cs34 (toS y b)).toArray 29)) hcc hl p i hi (toS y b))
          have hx5 := ck2 (HL5.out.get 0 rfl)
          have hz5 := cc2 (HL5.out.get 1 rfl)
          have hy5 := ck11 (blk_new w4 (.cells (cs34 (toS y b)).toArray 29))
          unfold cs34 toS at hx5 hz5 hy5
          unfold cs34 toS at KS
          clear hyy
          have fin : q < 0 ∨ q = (i : Int) := by have := HQ.out; omega
          rcases fin with f | f
          · have d1 : ¬ (0 ≤ q) := by omega
            go_wp2_with fail
            refine KS.out.mono ?_
            rintro e w6 ⟨v, rfl, hR, hb⟩
            obtain ⟨A9, c9, rfl⟩ := Kd.R_slice hR
            rw [List.length_set] at hR ⊢
            have HL6 := Aside0.mk (HL5.out.below hb)
            have HB6 := Aside0.mk (below_step HB5.out hb)
            have HR6 := Aside0.mk hR
            have HZ := Aside0.mk (Nat.le_trans (below_size HB4.out) (by rw [sz1]; exact Nat.le_succ _ : w4.heap.size ≤ (w4.alloc (.cells (cs34 (toS y b)).toArray 29)).heap.size))
            clear hb hR
            have hz6 := cc2 (HL6.out.get 1 rfl)
            go_wp2_with fail
            refine bodyPost_ret (results_ct rfl _ _ (w.heap.size + 1) 66 #[.slice A9 l.length c9, .int .i64 p] (0, 0) _ rfl (put2g (HL6.out.get 1 rfl)) Try.underlying66 rfl (by kernel_rfl)) rfl ?_
            have e1 : ((l.map cv).set i (toS y b)).map vc = l.set i (vc (toS y b)) := set_vc l i (vc (toS y b))
            rw [HR2.out]
            refine ⟨.slice A9 l.length c9, rfl, ?_, bel2 HB6.out hs⟩
            show Kd.R k29 29 _ w.heap.size (fun _ => True) (.slice A9 l.length c9) (((l.map cv).set i (toS y b)).map vc)
            rw [e1]
            exact Kd.R_mono (Kd.R_far (p := ⟨w.heap.size + 1, 1, none⟩) (Kd.R_far (p := ⟨w.heap.size + 1, 0, none⟩) (Kd.R_types (Kd.R_lower HR6.out HZ.out) (HL6.out.get 1 rfl) (by decide)) (fun _ hk => hk.2) _) (fun _ hk => hk.2) _) (fun _ _ => trivial)
          · subst f
            have d1 : (0 : Int) ≤ (i : Int) := by omega
            go_wp2_with fail
            refine KS.out.mono ?_
            rintro e w6 ⟨v, rfl, hR, hb⟩
            obtain ⟨A9, c9, rfl⟩ := Kd.R_slice hR
            rw [List.length_set] at hR ⊢
            have HL6 := Aside0.mk (HL5.out.below hb)
            have HB6 := Aside0.mk (below_step HB5.out hb)
            have HR6 := Aside0.mk hR
            have HZ := Aside0.mk (Nat.le_trans (below_size HB4.out) (by rw [sz1]; exact Nat.le_succ _ : w4.heap.size ≤ (w4.alloc (.cells (cs34 (toS y b)).toArray 29)).heap.size))
            clear hb hR
            have hz6 := cc2 (HL6.out.get 1 rfl)
            go_wp2_with fail
            refine bodyPost_ret (results_ct rfl _ _ (w.heap.size + 1) 66 #[.slice A9 l.length c9, .int .i64 p] (0, 0) _ rfl (put2g (HL6.out.get 1 rfl)) Try.underlying66 rfl (by kernel_rfl)) rfl ?_
            have e1 : ((l.map cv).set i (toS y b)).map vc = l.set i (vc (toS y b)) := set_vc l i (vc (toS y b))
            rw [HR2.out]
            refine ⟨.slice A9 l.length c9, rfl, ?_, bel2 HB6.out hs⟩
            show Kd.R k29 29 _ w.heap.size (fun _ => True) (.slice A9 l.length c9) (((l.map cv).set i (toS y b)).map vc)
            rw [e1]
            exact Kd.R_mono (Kd.R_far (p := ⟨w.heap.size + 1, 1, none⟩) (Kd.R_far (p := ⟨w.heap.size + 1, 0, none⟩) (Kd.R_types (Kd.R_lower HR6.out HZ.out) (HL6.out.get 1 rfl) (by decide)) (fun _ hk => hk.2) _) (fun _ hk => hk.2) _) (fun _ _ => trivial)
      · rw [decide_eq_false ha] at HAd
        rw [if_neg ha] at HR2
        clear ha
        go_wp2_with fail
        refine HAd.out.mono ?_
        rintro e w3 ⟨rfl, hb⟩
        have HL3 := Aside0.mk (HL2.out.below hb)
        have HB3 := Aside0.mk (below_step HB2.out hb)
        clear hb hx hz HAd
        have hz := cc2 (HL3.out.get 1 rfl)
        go_wp2_with fail
        refine bodyPost_ret (results_ct rfl _ _ (w.heap.size + 1) 66 #[.slice none 0 0, .int .i64 0] (0, 0) _ rfl (put2g (HL3.out.get 1 rfl)) Try.underlying66 rfl (by kernel_rfl)) rfl ?_
        rw [HR2.out]
        exact ⟨_, rfl, Kd.R_nil _ _ _ _ _, bel2 HB3.out hs⟩
end Go.Proofs.Ytblooffiggciiaa.Ps
/- PsAd -/
namespace Go.Proofs.Ytblooffiggciiaa.Ps
open Go.RowKit Go.Proofs.Ytblooffiggciiaa.PPs Go.Proofs.YtblooffiggciiaaW.PrintWords Go.Proofs.YtblooffiggciiaaW.PrintLast Go.Proofs.YtblooffiggciiaaW.PrintMore Go.Proofs.Ytblooffiggciiaa.Sh
attribute [local go_sem] Go.Proofs.Ytblooffiggciiaa.Aid.isSome_setCell
theorem fnd_er (l : List S34) (p a : Int) : (fnd l p a).2 ≠ some 0 := by
  unfold fnd
  repeat' split
  all_goals simp
end Go.Proofs.Ytblooffiggciiaa.Ps
/- PsAq -/
namespace Go.Proofs.Ytblooffiggciiaa.Ps
open Go.RowKit Go.Proofs.Ytblooffiggciiaa.PPs Go.Proofs.YtblooffiggciiaaW.PrintWords Go.Proofs.YtblooffiggciiaaW.PrintLast Go.Proofs.YtblooffiggciiaaW.PrintMore Go.Proofs.Ytblooffiggciiaa.Sh
attribute [local go_sem] Go.Proofs.Ytblooffiggciiaa.Aid.isSome_setCell
def Row29 (w0 W : World) (A : Option Addr) (n c : Nat) (m : List S29) : Prop := (n = m.length ∧ n ≤ c) ∧ (Kd.R k29 29 W 0 (fun _ => True) (.slice A n c) m ∨ Kd.C k29 w0 A n m)
theorem Row29.below {w0 W W' : World} {A : Option Addr} {n c : Nat} {m : List S29} (h : Row29 w0 W A n c m) (hb : Below W.heap.size W W') : Row29 w0 W' A n c m :=
  ⟨h.1, h.2.imp (fun h => Kd.R_below h hb) (fun h => h)⟩
theorem Row29.set2 {w0 W : World} {A : Option Addr} {n c g : Nat} {m : List S29} {x y v q : Value} (h : Row29 w0 W A n c m) (hg : W.heap[g]? = some (.cells #[x, y] 66 (0, 0))) : Row29 w0 ((W.setCell ⟨g, 0, none⟩ v).setCell ⟨g, 1, none⟩ q) A n c m :=
  ⟨h.1, h.2.imp (fun h => Kd.R_mono (Kd.R_far (p := ⟨g, 1, none⟩) (Kd.R_far (p := ⟨g, 0, none⟩) (Kd.R_types h hg (by decide)) (fun _ hk => hk.2) v) (fun _ hk => hk.2) q) (fun _ _ => trivial)) (fun h => h)⟩
theorem Row29.reads {w0 W : World} {A : Option Addr} {n c : Nat} {m : List S29} (h : Row29 w0 W A n c m) (hb : Below w0.heap.size w0 W) : Kd.C k29 W A n m := by
  rcases h.2 with h2 | h2
  · have := (Kd.R_reads' h2).2.2
    rw [← h.1.1] at this
    exact this
  · exact Kd.C_below h2 hb
theorem row29_R {w0 W : World} {A : Option Addr} {n c B : Nat} {m : List S29} (h : Kd.R k29 29 W B (fun _ => True) (.slice A n c) m) : Row29 w0 W A n c m := ⟨⟨(Kd.R_reads' h).1, (Kd.R_reads' h).2.1⟩, .inl (Kd.R_lower h (Nat.zero_le _))⟩
def Ref2 (w0 w : World) (r : List S34 × Int × Option Int) (e : Ending) (w' : World) : Prop :=
  ∃ A' c', e = .returned (.tuple #[.agg #[.slice A' (r.1.map vc).length c', .int .i64 r.2.1], .int .i64 (erN r.2.2)]) ∧ Row29 w0 w' A' (r.1.map vc).length c' (r.1.map vc) ∧ Below w.heap.size w w'
theorem Ref2_of {w0 w w' : World} {r : List S34 × Int × Option Int} {e : Ending} (h : ∃ v, e = .returned (.tuple #[.agg #[v, .int .i64 r.2.1], .int .i64 (erN r.2.2)]) ∧ Kd.R k29 29 w' w.heap.size (fun _ => True) v (r.1.map vc) ∧ Below w.heap.size w w') : Ref2 w0 w r e w' := by
  obtain ⟨v, rfl, hR, hb⟩ := h
  obtain ⟨A', c', rfl⟩ := Kd.R_slice hR
  exact ⟨A', c', rfl, row29_R hR, hb⟩
theorem bel2b {w W : World} {B g : Nat} {v q : Value} (h : Below B w W) (hg : B ≤ g) : Below B w ((W.setCell ⟨g, 0, none⟩ v).setCell ⟨g, 1, none⟩ q) := (h.setCell hg v).setCell hg q
theorem delL_len (l : List S34) (p a : Int) : (delL l p a).1.length ≤ l.length := by
  unfold delL
  split
  · split
    · simp
    · exact List.length_eraseIdx_le ..
  · simp
theorem delL_er (l : List S34) (p a : Int) : (delL l p a).2.2 ≠ some 0 := by
  unfold delL
  split
  · split <;> simp
  · rename_i h; have := fnd_er l p a; rw [h] at this; exact this
theorem addL_len (l : List S34) (p a : Int) : (addL l p a).1.length ≤ l.length + 1 := by
  unfold addL
  repeat' split
  all_goals simp
theorem addL_er (l : List S34) (p a : Int) : (addL l p a).2.2 ≠ some 0 := by
  unfold addL
  repeat' split
  all_goals simp
theorem primeL_len (l : List S34) (p a : Int) : (primeL l p a).1.length ≤ l.length := by
  unfold primeL
  split <;> simp
theorem primeL_er (l : List S34) (p a : Int) : (primeL l p a).2.2 ≠ some 0 := by
  unfold primeL
  split
  · simp
  · rename_i h; have := fnd_er l p a; rw [h] at this; exact this
theorem moveL_len (l : List S34) (p a b : Int) : (moveL l p a b).1.length ≤ l.length := by
  unfold moveL
  split
  · simp
  · repeat' split
    all_goals simp
theorem moveL_er (l : List S34) (p a b : Int) : (moveL l p a b).2.2 ≠ some 0 := by
  unfold moveL
  split
  · rename_i h; have := fnd_er l p a; rw [h] at this; exact this
  · repeat' split
    all_goals simp
set_option maxHeartbeats 4000000 in
set_option maxRecDepth 100000 in
theorem rprime2 {w0 w : World} {A : Option Addr} {c : Nat} {l : List S29} (hC0 : Kd.C k29 w0 A l.length l) (hB0 : Below w0.heap.size w0 w) (hcc : l.length ≤ c) (hl : l.length ≤ 1000) (p a : Int) (r : List S34 × Int × Option Int) (hr : r = primeL (l.map cv) p a) :
    Calls Try.prog 61 #[.agg #[.slice A l.length c, .int .i64 p], .int .i64 a] w (Ref2 w0 w r) := by
  have hC := Kd.C_below hC0 hB0
  have HC0 := Aside0.mk hC0
  clear hC0
  have hB := b1 (b1 (Below.refl w.heap.size w) (.cells #[.slice A l.length c, .int .i64 p] 66)) (.cells #[.slice none 0 0, .int .i64 0] 66)
  have hL := ((BL.nil w).new (.cells #[.slice A l.length c, .int .i64 p] 66)).new (.cells #[.slice none 0 0, .int .i64 0] 66)
  rw [sz1] at hL
  have HC := Aside0.mk hC
  have HB := Aside0.mk hB
  have HL := Aside0.mk hL
  have HG := Aside0.mk (rgood_calls (Kd.C_below HC.out hB) hcc hl p)
  have hx := ck2 (HL.out.get 0 rfl)
  have hs : w.heap.size ≤ w.heap.size + 1 := by omega
  have HR := Aside0.mk hr
  clear hB hL hC hr
  go_enter Try.func61, Try.ntmps61
  go_wp2_with fail
  refine HG.out.mono ?_
  rintro e w1 ⟨rfl, hb⟩
  have HL1 := Aside0.mk (HL.out.below hb)
  have HB1 := Aside0.mk (below_step HB.out hb)
  clear hb hx HG
  have hx := cc2 (HL1.out.get 0 rfl)
  have hz := cc2 (HL1.out.get 1 rfl)
  have HF := Aside0.mk (rfind_calls (Kd.C_below HC.out HB1.out) hcc hl p a)
  cases hg : gdb (l.map cv) p with
  | false =>
    have HR2 := Aside0.mk (show r = ([], 0, some 1) by rw [HR.out]; unfold primeL fnd; rw [hg, if_neg (by simp)])
    clear hg
    go_wp2_with fail
    refine bodyPost_ret (results_ct rfl _ _ (w.heap.size + 1) 66 #[.slice none 0 0, .int .i64 0] (0, 0) _ rfl (put2g (HL1.out.get 1 rfl)) Try.underlying66 rfl (by kernel_rfl)) rfl ?_
    rw [HR2.out]
    exact ⟨none, 0, rfl, ⟨⟨rfl, Nat.le_refl _⟩, .inl (Kd.R_nil _ _ _ _ _)⟩, bel2 HB1.out hs⟩
  | true =>
    go_wp2_with fail
    refine HF.out.mono ?_
    rintro e w2 ⟨rfl, hb⟩
    have HL2 := Aside0.mk (HL1.out.below hb)
    have HB2 := Aside0.mk (below_step HB1.out hb)
    clear hb hx hz HF
    have hx := cc2 (HL2.out.get 0 rfl)
    have hz := cc2 (HL2.out.get 1 rfl)
    have HF := Aside0.mk (rfind_calls (Kd.C_below HC.out HB2.out) hcc hl p a)
    rcases plc_at (l.map cv) a with h | ⟨i, hi, h, _⟩
    · have HR2 := Aside0.mk (show r = ([], 0, some 4) by rw [HR.out]; unfold primeL fnd; rw [hg, if_pos rfl, h]; rfl)
      rw [h]
      clear hg h
      go_wp2_with fail
      refine bodyPost_ret (results_ct rfl _ _ (w.heap.size + 1) 66 #[.slice none 0 0, .int .i64 0] (0, 0) _ rfl (put2g (HL2.out.get 1 rfl)) Try.underlying66 rfl (by kernel_rfl)) rfl ?_
      rw [HR2.out]
      exact ⟨none, 0, rfl, ⟨⟨rfl, Nat.le_refl _⟩, .inl (Kd.R_nil _ _ _ _ _)⟩, bel2 HB2.out hs⟩
    · have HR2 := Aside0.mk (show r = (l.map cv, (i : Int), none) by rw [HR.out]; unfold primeL fnd; rw [hg, if_pos rfl, h, if_neg (by omega)])
      rw [h] at HF ⊢
      clear hg h
      have hi0 : ¬ ((i : Int) < 0) := by omega
      go_wp2_with fail
      refine HF.out.mono ?_
      rintro e w3 ⟨rfl, hb⟩
      have HL3 := Aside0.mk (HL2.out.below hb)
      have HB3 := Aside0.mk (below_step HB2.out hb)
      clear hb hx hz HF
      have hx := cc2 (HL3.out.get 0 rfl)
      have hz := cc2 (HL3.out.get 1 rfl)
      have hne : w.heap.size + 1 ≠ w.heap.size := by omega
      go_wp2_with fail
      have hb1 := (Below.heap_setCell w3 ⟨w.heap.size, 1, none⟩ (.int .i64 i) (w.heap.size + 1) hne).trans (HL3.out.get 1 rfl)
      refine bodyPost_ret (results_ct rfl _ _ (w.heap.size + 1) 66 #[.slice A l.length c, .int .i64 i] (0, 0) _ rfl (put2g hb1) Try.underlying66 rfl (by kernel_rfl)) rfl ?_
      have hB4 := bel2 (v := .slice A l.length c) (q := .int .i64 i) (below_set (j := 1) (v := .int .i64 i) HB3.out (Nat.le_refl _)) hs
      have e1 : (l.map cv).map vc = l := map_vc l
      rw [HR2.out]
      unfold Ref2
      simp only [e1]
      exact ⟨A, c, rfl, ⟨⟨rfl, hcc⟩, .inr HC0.out⟩, hB4⟩
theorem rr2g {W : World} {B g : Nat} {l : List S34} {x y u v q : Value} (hR : Kd.R k34 34 W B (fun _ => True) u l) (h : W.heap[g]? = some (.cells #[x, y] 66 (0, 0))) : Kd.R k34 34 ((W.setCell ⟨g, 0, none⟩ v).setCell ⟨g, 1, none⟩ q) B (fun _ => True) u l :=
  Kd.R_mono (Kd.R_far (p := ⟨g, 1, none⟩) (Kd.R_far (p := ⟨g, 0, none⟩) (Kd.R_types hR h (by decide)) (fun _ hk => hk.2) v) (fun _ hk => hk.2) q) (fun _ _ => trivial)
set_option maxHeartbeats 8000000 in
set_option maxRecDepth 100000 in
theorem change_in {w : World} {A : Option Addr} {c : Nat} {l : List S29} (hC : Kd.C k29 w A l.length l) (hcc : l.length ≤ c) (hl : l.length ≤ 10) (p a b : Int) :
    Calls Try.prog 9 #[.agg #[.slice A l.length c, .int .i64 p], .int .i64 a, .int .i64 b] w fun e w' => e = .returned (.bool true) ∧ Below w.heap.size w w' := by
  obtain ⟨g, hg⟩ : ∃ g, g = w.heap.size := ⟨_, rfl⟩
  have hB := b1 (Below.refl w.heap.size w) (.cells #[.slice A l.length c, .int .i64 p] 66)
  have hL := (BL.nil w).new (.cells #[.slice A l.length c, .int .i64 p] 66)
  rw [← hg] at hL
  have HG := Aside0.mk hg
  have HC := Aside0.mk hC
  have hl2 : (l.length : Int) ≤ 10 := by omega
  have HA := Aside0.mk (alive_calls (w.alloc (.cells #[.slice A l.length c, .int .i64 p] 66)))
  have HB := Aside0.mk hB
  have HL := Aside0.mk hL
  clear hg hC hB hL
  go_enter Try.func9, Try.ntmps9
  go_wp2_with fail
  refine HA.out.mono ?_
  rw [← HG.out]
  rintro e w1 ⟨rfl, hb⟩
  have HL1 := Aside0.mk (HL.out.below hb)
  have HB1 := Aside0.mk (below_step HB.out hb)
  clear hb
  have hx := ck2 (HL1.out.get 0 rfl)
  have HP := Aside0.mk (program_calls (w := w1) (Kd.C_below HC.out HB1.out) hcc (by omega) p)
  go_wp2_with fail
  refine HP.out.mono ?_
  rintro e w2 ⟨v, rfl, hR, hb⟩
  obtain ⟨A2, c2, rfl⟩ := Kd.R_slice hR
  have hlm : (l.map cv).length = l.length := List.length_map ..
  have HP1 := Aside0.mk (Kd.R_reads' hR).2.1
  have hP2 := (Kd.R_reads' hR).2.2
  obtain ⟨L, hL⟩ : ∃ L, L = l.map cv := ⟨_, rfl⟩
  rw [← hL] at hlm HP1 hP2 ⊢
  have HLe := Aside0.mk hL
  have HLl := Aside0.mk hlm
  have hL10 : L.length ≤ 1000 := by omega
  rw [hlm] at HP1 hP2 ⊢
  have HB2 := Aside0.mk (b1 (below_step HB1.out hb) (.cells #[.slice A2 l.length c2, .int .i64 p] 70))
  have HL2 := Aside0.mk ((HL1.out.below hb).new (.cells #[.slice A2 l.length c2, .int .i64 p] 70))
  have HX2 := Aside0.mk (Kd.C_alloc hP2 (.cells #[.slice A2 l.length c2, .int .i64 p] 70))
  have HXc := Aside0.mk (show L.length ≤ c2 by rw [hlm]; exact HP1.out)
  clear hb hR hx hL hP2 HL1 HB1 HP
  have KA := Aside0.mk (show ∀ W, Kd.C k34 W A2 l.length L → Calls Try.prog 56 #[.agg #[.slice A2 l.length c2, .int .i64 p], .int .i64 a] W (SetR W (addL L p a).1 (addL L p a).2.1 (addL L p a).2.2) from fun W hC => by
    have h := add_calls (w := W) (A := A2) (c := c2) (l := L) (by rw [hlm]; exact hC) HXc.out hL10 p a
    rw [hlm] at h
    exact h)
  have KD := Aside0.mk (show ∀ W, Kd.C k34 W A2 l.length L → Calls Try.prog 58 #[.agg #[.slice A2 l.length c2, .int .i64 p], .int .i64 a] W (SetR W (delL L p a).1 (delL L p a).2.1 (delL L p a).2.2) from fun W hC => by
    have h := del_calls (w := W) (A := A2) (c := c2) (l := L) (by rw [hlm]; exact hC) HXc.out hL10 p a
    rw [hlm] at h
    exact h)
  have KP := Aside0.mk (show ∀ W, Kd.C k34 W A2 l.length L → Calls Try.prog 60 #[.agg #[.slice A2 l.length c2, .int .i64 p], .int .i64 a] W (SetR W (primeL L p a).1 (primeL L p a).2.1 (primeL L p a).2.2) from fun W hC => by
    have h := prime_calls (w := W) (A := A2) (c := c2) (l := L) (by rw [hlm]; exact hC) HXc.out (by omega) p a
    rw [hlm] at h
    exact h)
  have KM := Aside0.mk (show ∀ W, Kd.C k34 W A2 l.length L → Calls Try.prog 62 #[.agg #[.slice A2 l.length c2, .int .i64 p], .int .i64 a, .int .i64 b] W (SetR W (moveL L p a b).1 (moveL L p a b).2.1 (moveL L p a b).2.2) from fun W hC => by
    have h := move_calls (w := W) (A := A2) (c := c2) (l := L) (by rw [hlm]; exact hC) HXc.out (by omega) p a b
    rw [hlm] at h
    exact h)
  have HW2 := Aside0.mk (Nat.le_refl (w2.alloc (.cells #[.slice A2 l.length c2, .int .i64 p] 70)).heap.size)
  obtain ⟨r1, hr1⟩ : ∃ r, r = addL L p a := ⟨_, rfl⟩
  have Hr1 := Aside0.mk hr1
  rw [← hr1] at KA
  have HrL1 := Aside0.mk (show r1.1.length ≤ 1000 by rw [hr1]; exact Nat.le_trans (addL_len L p a) (by omega))
  have HrE1 := Aside0.mk (show r1.2.2 ≠ some 0 by rw [hr1]; exact addL_er L p a)
  clear hr1
  have hx := ck2 (HL2.out.get 1 rfl)
  go_wp2_with fail
  refine (KA.out _ HX2.out).mono ?_
  rintro e w3 ⟨v, rfl, hR, hb⟩
  obtain ⟨A3, c3, rfl⟩ := Kd.R_slice hR
  have HL3 := Aside0.mk (HL2.out.below hb)
  have HB3 := Aside0.mk (below_step HB2.out hb)
  have HX3 := Aside0.mk (Kd.C_below HX2.out hb)
  have BM := Aside0.mk (b1 (Below.refl w3.heap.size w3) (.cells #[.slice A3 r1.1.length c3, .int .i64 r1.2.1] 70))
  have CB := Aside0.mk (blk_new w3 (.cells #[.slice A3 r1.1.length c3, .int .i64 r1.2.1] 70))
  have hRa := Kd.R_below hR (b1 (Below.refl w3.heap.size w3) (.cells #[.slice A3 r1.1.length c3, .int .i64 r1.2.1] 70))
  have RC := Aside0.mk (Kd.R_lower hRa (Nat.zero_le _))
  have RCc := Aside0.mk (Kd.R_reads' hR).2.1
  clear hb hR hRa hx HW2
  obtain ⟨kc, hkc⟩ : ∃ kc, kc = w3.heap.size := ⟨_, rfl⟩
  have HK := Aside0.mk hkc
  have hx := ck2 (BL.get (HL3.out.below BM.out) 0 rfl)
  obtain ⟨W3, hW3⟩ : ∃ W3, W3 = w3.alloc (.cells #[.slice A3 r1.1.length c3, .int .i64 r1.2.1] 70) := ⟨_, rfl⟩
  rw [← hW3] at BM CB RC hx
  have HW3 := Aside0.mk hW3
  rw [← hkc] at CB
  have KR := Aside0.mk (show Calls Try.prog 57 #[.agg #[.slice A l.length c, .int .i64 p], .int .i64 a] W3 (Ref2 w W3 r1) from (radd_calls (Kd.C_below HC.out (HB3.out.trans (BM.out.mono HB3.out.size))) hcc (by omega) p a r1 (by rw [← HLe.out]; exact Hr1.out)).mono fun e w9 h => Ref2_of (w0 := w) h)
  rw [hW3] at KR hx
  clear hW3 hkc
  go_wp2_with fail
  refine KR.out.mono ?_
  rw [← HW3.out, ← HK.out]
  rintro e w4 ⟨A4, c4, rfl, hR29, hb⟩
  have hx := ck2 (blk_below CB.out hb)
  obtain ⟨M1, hM1⟩ : ∃ M, M = r1.1.map vc := ⟨_, rfl⟩
  rw [← hM1] at hR29 ⊢
  have HM1 := Aside0.mk hM1
  have BM4 := Aside0.mk (b1 (BM.out.trans (hb.mono BM.out.size)) (.cells #[.slice A4 M1.length c4, .int .i64 r1.2.1] 66))
  have CB4 := Aside0.mk (q3 (blk_below CB.out hb) (.cells #[.slice A4 M1.length c4, .int .i64 r1.2.1] 66))
  have WB4 := Aside0.mk (blk_new w4 (.cells #[.slice A4 M1.length c4, .int .i64 r1.2.1] 66))
  have RC4 := Aside0.mk (Kd.R_below (Kd.R_below RC.out hb) (b1 (Below.refl w4.heap.size w4) (.cells #[.slice A4 M1.length c4, .int .i64 r1.2.1] 66)))
  have RW4 := Aside0.mk (hR29.below (b1 (Below.refl w4.heap.size w4) (.cells #[.slice A4 M1.length c4, .int .i64 r1.2.1] 66)))
  have hbz := below_size hb
  have hbm := below_size BM.out
  obtain ⟨kw, hkw⟩ : ∃ kw, kw = w4.heap.size := ⟨_, rfl⟩
  have HKW := Aside0.mk (show kc < kw by rw [HK.out, hkw]; have := blk_lt CB.out; rw [HK.out] at this; omega)
  have hx := ck2 CB4.out
  have hy := ck2 WB4.out
  obtain ⟨W4, hW4⟩ : ∃ W4, W4 = w4.alloc (.cells #[.slice A4 M1.length c4, .int .i64 r1.2.1] 66) := ⟨_, rfl⟩
  rw [← hW4] at BM4 CB4 WB4 RC4 RW4 hx hy
  rw [← hkw] at WB4 hy
  have hwW : Below w.heap.size w W4 := HB3.out.trans (BM4.out.mono HB3.out.size)
  have KT := Aside0.mk (told_calls (w := W4) (Kd.R_reads' RC4.out).2.2 RCc.out HrL1.out (RW4.out.reads hwW) RW4.out.1.2 HM1.out r1.2.1 r1.2.2 HrE1.out)
  have HW4 := Aside0.mk hW4
  have HKW2 := Aside0.mk hkw
  rw [hW4] at hx hy
  rw [hkw] at hy
  rw [hW4] at KT
  clear hb hR29 hM1 hbz hbm hkw hW4 hwW BM CB RC
  go_wp2_with fail
  refine KT.out.mono ?_
  rw [← HW4.out, ← HKW2.out]
  rintro e w5 ⟨rfl, hb⟩
  have BM5 := Aside0.mk (BM4.out.trans (hb.mono BM4.out.size))
  have CB5 := Aside0.mk (blk_below CB4.out hb)
  have WB5 := Aside0.mk (blk_below WB4.out hb)
  clear hb hx hy KT BM4 CB4 WB4 RC4 RW4 RCc HW4 HW3 HKW2
  have hg3 := blk_lt (HL3.out.get 0 rfl)
  have hh3 := blk_lt (HL3.out.get 1 rfl)
  rw [← HK.out] at hg3 hh3
  have hkw0 := HKW.out
  have hkw1 : kw ≠ kc := by omega
  have hkw2 : kc ≠ kw := by omega
  have q1 : g ≠ kc := by omega
  have q2 : kc ≠ g := by omega
  have q3 : g ≠ kw := by omega
  have q4 : kw ≠ g := by omega
  have q5 : w2.heap.size ≠ kc := by omega
  have q6 : kc ≠ w2.heap.size := by omega
  have q7 : w2.heap.size ≠ kw := by omega
  have q8 : kw ≠ w2.heap.size := by omega
  obtain ⟨r2, hr2⟩ : ∃ r, r = delL L p a := ⟨_, rfl⟩
  have Hr2 := Aside0.mk hr2
  rw [← hr2] at KD
  have HrL2 := Aside0.mk (show r2.1.length ≤ 1000 by rw [hr2]; exact Nat.le_trans (delL_len L p a) (by omega))
  have HrE2 := Aside0.mk (show r2.2.2 ≠ some 0 by rw [hr2]; exact delL_er L p a)
  clear hr2
  have hx := ck2 (BL.get (HL3.out.below BM5.out) 1 rfl)
  have hz := cc2 CB5.out
  go_wp2_with fail
  refine (KD.out _ (Kd.C_below HX3.out BM5.out)).mono ?_
  rintro e w6 ⟨v, rfl, hR, hb⟩
  obtain ⟨A6, c6, rfl⟩ := Kd.R_slice hR
  have BM6 := Aside0.mk (BM5.out.trans (hb.mono BM5.out.size))
  have CB6 := Aside0.mk (blk_below CB5.out hb)
  have WB6 := Aside0.mk (blk_below WB5.out hb)
  have hkc3 : w3.heap.size ≤ kc := Nat.le_of_eq HK.out.symm
  have BMs := Aside0.mk (bel2b (v := .slice A6 r2.1.length c6) (q := .int .i64 r2.2.1) BM6.out hkc3)
  have CBs := Aside0.mk (put2 (v := .slice A6 r2.1.length c6) (q := .int .i64 r2.2.1) CB6.out)
  have WBs := Aside0.mk (far2 (v := .slice A6 r2.1.length c6) (q := .int .i64 r2.2.1) WB6.out hkw1)
  have RCs := Aside0.mk (rr2 (v := .slice A6 r2.1.length c6) (q := .int .i64 r2.2.1) (Kd.R_lower hR BM5.out.size) CB6.out)
  have RCc := Aside0.mk (Kd.R_reads' hR).2.1
  clear hb hR hx hz
  have hx := ck2 (BL.get (HL3.out.below BM6.out) 0 rfl)
  have hz := cc2 CB6.out
  obtain ⟨W6, hW⟩ : ∃ W, W = (w6.setCell ⟨kc, 0, none⟩ (.slice A6 r2.1.length c6)).setCell ⟨kc, 1, none⟩ (.int .i64 r2.2.1) := ⟨_, rfl⟩
  rw [← hW] at BMs CBs WBs RCs
  have HWs := Aside0.mk hW
  have hx2 := ck2 (BL.get (HL3.out.below BMs.out) 0 rfl)
  have KR := Aside0.mk (show Calls Try.prog 59 #[.agg #[.slice A l.length c, .int .i64 p], .int .i64 a] W6 (Ref2 w W6 r2) from (rdel_calls (Kd.C_below HC.out (HB3.out.trans (BMs.out.mono HB3.out.size))) hcc (by omega) p a r2 (by rw [← HLe.out]; exact Hr2.out)).mono fun e w9 h => Ref2_of (w0 := w) h)
  rw [hW] at KR hx2
  clear hW
  go_wp2_with fail
  refine KR.out.mono ?_
  rw [← HWs.out]
  rintro e w7 ⟨A7, c7, rfl, hR29, hb⟩
  obtain ⟨M2, hM⟩ : ∃ M, M = r2.1.map vc := ⟨_, rfl⟩
  rw [← hM] at hR29 ⊢
  have HM2 := Aside0.mk hM
  have BM7 := Aside0.mk (BMs.out.trans (hb.mono BMs.out.size))
  have CB7 := Aside0.mk (blk_below CBs.out hb)
  have WB7 := Aside0.mk (blk_below WBs.out hb)
  have RC7 := Aside0.mk (Kd.R_below RCs.out hb)
  have BMt := Aside0.mk (bel2b (v := .slice A7 M2.length c7) (q := .int .i64 r2.2.1) BM7.out (Nat.le_trans hkc3 (Nat.le_of_lt HKW.out)))
  have CBt := Aside0.mk (far2 (v := .slice A7 M2.length c7) (q := .int .i64 r2.2.1) CB7.out hkw2)
  have WBt := Aside0.mk (put2g (v := .slice A7 M2.length c7) (q := .int .i64 r2.2.1) WB7.out)
  have RCt := Aside0.mk (rr2g (v := .slice A7 M2.length c7) (q := .int .i64 r2.2.1) RC7.out WB7.out)
  have RWt := Aside0.mk (hR29.set2 (v := .slice A7 M2.length c7) (q := .int .i64 r2.2.1) WB7.out)
  clear hb hR29 hx hx2 hz hM KR
  have hx := cc2 CB7.out
  have hz := cc2 WB7.out
  obtain ⟨W7, hW⟩ : ∃ W, W = (w7.setCell ⟨kw, 0, none⟩ (.slice A7 M2.length c7)).setCell ⟨kw, 1, none⟩ (.int .i64 r2.2.1) := ⟨_, rfl⟩
  rw [← hW] at BMt CBt WBt RCt RWt
  have HWt := Aside0.mk hW
  have KT := Aside0.mk (told_calls (w := W7) (Kd.R_reads' RCt.out).2.2 RCc.out HrL2.out (RWt.out.reads (HB3.out.trans (BMt.out.mono HB3.out.size))) RWt.out.1.2 HM2.out r2.2.1 r2.2.2 HrE2.out)
  have hx2 := ck2 CBt.out
  have hz2 := ck2 WBt.out
  rw [hW] at KT hx2 hz2
  clear hW
  go_wp2_with fail
  refine KT.out.mono ?_
  rw [← HWt.out]
  rintro e w8 ⟨rfl, hb⟩
  have BM8 := Aside0.mk (BMt.out.trans (hb.mono BMt.out.size))
  have CB8 := Aside0.mk (blk_below CBt.out hb)
  have WB8 := Aside0.mk (blk_below WBt.out hb)
  have RC8 := Aside0.mk (Kd.R_below RCt.out hb)
  clear hb hx hz hx2 hz2 KT BMs CBs WBs RCs BMt CBt WBt RCt RWt HWs HWt BM5 CB5 WB5 BM6 CB6 WB6 BM7 CB7 WB7 RC7 hkc3
  obtain ⟨r3, hr3⟩ : ∃ r, r = primeL L p a := ⟨_, rfl⟩
  have Hr3 := Aside0.mk hr3
  rw [← hr3] at KP
  have HrL3 := Aside0.mk (show r3.1.length ≤ 1000 by rw [hr3]; exact Nat.le_trans (primeL_len L p a) (by omega))
  have HrE3 := Aside0.mk (show r3.2.2 ≠ some 0 by rw [hr3]; exact primeL_er L p a)
  clear hr3
  have hx := ck2 (BL.get (HL3.out.below BM8.out) 1 rfl)
  have hz := cc2 CB8.out
  go_wp2_with fail
  refine (KP.out _ (Kd.C_below HX3.out BM8.out)).mono ?_
  rintro e w9 ⟨v, rfl, hR, hb⟩
  obtain ⟨A9, c9, rfl⟩ := Kd.R_slice hR
  have BM9 := Aside0.mk (BM8.out.trans (hb.mono BM8.out.size))
  have CB9 := Aside0.mk (blk_below CB8.out hb)
  have WB9 := Aside0.mk (blk_below WB8.out hb)
  have hkc3 : w3.heap.size ≤ kc := Nat.le_of_eq HK.out.symm
  have BMs := Aside0.mk (bel2b (v := .slice A9 r3.1.length c9) (q := .int .i64 r3.2.1) BM9.out hkc3)
  have CBs := Aside0.mk (put2 (v := .slice A9 r3.1.length c9) (q := .int .i64 r3.2.1) CB9.out)
  have WBs := Aside0.mk (far2 (v := .slice A9 r3.1.length c9) (q := .int .i64 r3.2.1) WB9.out hkw1)
  have RCs := Aside0.mk (rr2 (v := .slice A9 r3.1.length c9) (q := .int .i64 r3.2.1) (Kd.R_lower hR BM8.out.size) CB9.out)
  have RCc := Aside0.mk (Kd.R_reads' hR).2.1
  clear hb hR hx hz
  have hx := ck2 (BL.get (HL3.out.below BM9.out) 0 rfl)
  have hz := cc2 CB9.out
  obtain ⟨W9, hW⟩ : ∃ W, W = (w9.setCell ⟨kc, 0, none⟩ (.slice A9 r3.1.length c9)).setCell ⟨kc, 1, none⟩ (.int .i64 r3.2.1) := ⟨_, rfl⟩
  rw [← hW] at BMs CBs WBs RCs
  have HWs := Aside0.mk hW
  have hx2 := ck2 (BL.get (HL3.out.below BMs.out) 0 rfl)
  have KR := Aside0.mk (show Calls Try.prog 61 #[.agg #[.slice A l.length c, .int .i64 p], .int .i64 a] W9 (Ref2 w W9 r3) from rprime2 (w0 := w) HC.out (HB3.out.trans (BMs.out.mono HB3.out.size)) hcc (by omega) p a r3 (by rw [← HLe.out]; exact Hr3.out))
  rw [hW] at KR hx2
  clear hW
  go_wp2_with fail
  refine KR.out.mono ?_
  rw [← HWs.out]
  rintro e w10 ⟨A10, c10, rfl, hR29, hb⟩
  obtain ⟨M3, hM⟩ : ∃ M, M = r3.1.map vc := ⟨_, rfl⟩
  rw [← hM] at hR29 ⊢
  have HM3 := Aside0.mk hM
  have BM10 := Aside0.mk (BMs.out.trans (hb.mono BMs.out.size))
  have CB10 := Aside0.mk (blk_below CBs.out hb)
  have WB10 := Aside0.mk (blk_below WBs.out hb)
  have RC10 := Aside0.mk (Kd.R_below RCs.out hb)
  have BMt := Aside0.mk (bel2b (v := .slice A10 M3.length c10) (q := .int .i64 r3.2.1) BM10.out (Nat.le_trans hkc3 (Nat.le_of_lt HKW.out)))
  have CBt := Aside0.mk (far2 (v := .slice A10 M3.length c10) (q := .int .i64 r3.2.1) CB10.out hkw2)
  have WBt := Aside0.mk (put2g (v := .slice A10 M3.length c10) (q := .int .i64 r3.2.1) WB10.out)
  have RCt := Aside0.mk (rr2g (v := .slice A10 M3.length c10) (q := .int .i64 r3.2.1) RC10.out WB10.out)
  have RWt := Aside0.mk (hR29.set2 (v := .slice A10 M3.length c10) (q := .int .i64 r3.2.1) WB10.out)
  clear hb hR29 hx hx2 hz hM KR
  have hx := cc2 CB10.out
  have hz := cc2 WB10.out
  obtain ⟨W10, hW⟩ : ∃ W, W = (w10.setCell ⟨kw, 0, none⟩ (.slice A10 M3.length c10)).setCell ⟨kw, 1, none⟩ (.int .i64 r3.2.1) := ⟨_, rfl⟩
  rw [← hW] at BMt CBt WBt RCt RWt
  have HWt := Aside0.mk hW
  have KT := Aside0.mk (told_calls (w := W10) (Kd.R_reads' RCt.out).2.2 RCc.out HrL3.out (RWt.out.reads (HB3.out.trans (BMt.out.mono HB3.out.size))) RWt.out.1.2 HM3.out r3.2.1 r3.2.2 HrE3.out)
  have hx2 := ck2 CBt.out
  have hz2 := ck2 WBt.out
  rw [hW] at KT hx2 hz2
  clear hW
  go_wp2_with fail
  refine KT.out.mono ?_
  rw [← HWt.out]
  rintro e w11 ⟨rfl, hb⟩
  have BM11 := Aside0.mk (BMt.out.trans (hb.mono BMt.out.size))
  have CB11 := Aside0.mk (blk_below CBt.out hb)
  have WB11 := Aside0.mk (blk_below WBt.out hb)
  have RC11 := Aside0.mk (Kd.R_below RCt.out hb)
  clear hb hx hz hx2 hz2 KT BMs CBs WBs RCs BMt CBt WBt RCt RWt HWs HWt BM8 CB8 WB8 BM9 CB9 WB9 BM10 CB10 WB10 RC10 hkc3
  obtain ⟨r4, hr4⟩ : ∃ r, r = moveL L p a b := ⟨_, rfl⟩
  have Hr4 := Aside0.mk hr4
  rw [← hr4] at KM
  have HrL4 := Aside0.mk (show r4.1.length ≤ 1000 by rw [hr4]; exact Nat.le_trans (moveL_len L p a b) (by omega))
  have HrE4 := Aside0.mk (show r4.2.2 ≠ some 0 by rw [hr4]; exact moveL_er L p a b)
  clear hr4
  have hx := ck2 (BL.get (HL3.out.below BM11.out) 1 rfl)
  have hz := cc2 CB11.out
  go_wp2_with fail
  refine (KM.out _ (Kd.C_below HX3.out BM11.out)).mono ?_
  rintro e w12 ⟨v, rfl, hR, hb⟩
  obtain ⟨A12, c12, rfl⟩ := Kd.R_slice hR
  have BM12 := Aside0.mk (BM11.out.trans (hb.mono BM11.out.size))
  have CB12 := Aside0.mk (blk_below CB11.out hb)
  have WB12 := Aside0.mk (blk_below WB11.out hb)
  have hkc3 : w3.heap.size ≤ kc := Nat.le_of_eq HK.out.symm
  have BMs := Aside0.mk (bel2b (v := .slice A12 r4.1.length c12) (q := .int .i64 r4.2.1) BM12.out hkc3)
  have CBs := Aside0.mk (put2 (v := .slice A12 r4.1.length c12) (q := .int .i64 r4.2.1) CB12.out)
  have WBs := Aside0.mk (far2 (v := .slice A12 r4.1.length c12) (q := .int .i64 r4.2.1) WB12.out hkw1)
  have RCs := Aside0.mk (rr2 (v := .slice A12 r4.1.length c12) (q := .int .i64 r4.2.1) (Kd.R_lower hR BM11.out.size) CB12.out)
  have RCc := Aside0.mk (Kd.R_reads' hR).2.1
  clear hb hR hx hz
  have hx := ck2 (BL.get (HL3.out.below BM12.out) 0 rfl)
  have hz := cc2 CB12.out
  obtain ⟨W12, hW⟩ : ∃ W, W = (w12.setCell ⟨kc, 0, none⟩ (.slice A12 r4.1.length c12)).setCell ⟨kc, 1, none⟩ (.int .i64 r4.2.1) := ⟨_, rfl⟩
  rw [← hW] at BMs CBs WBs RCs
  have HWs := Aside0.mk hW
  have hx2 := ck2 (BL.get (HL3.out.below BMs.out) 0 rfl)
  have KR := Aside0.mk (show Calls Try.prog 63 #[.agg #[.slice A l.length c, .int .i64 p], .int .i64 a, .int .i64 b] W12 (Ref2 w W12 r4) from (rmove_hand (Kd.C_below HC.out (HB3.out.trans (BMs.out.mono HB3.out.size))) hcc (by omega) p a b r4 (by rw [← HLe.out]; exact Hr4.out)).mono fun e w9 h => Ref2_of (w0 := w) h)
  rw [hW] at KR hx2
  clear hW
  go_wp2_with fail
  refine KR.out.mono ?_
  rw [← HWs.out]
  rintro e w13 ⟨A13, c13, rfl, hR29, hb⟩
  obtain ⟨M4, hM⟩ : ∃ M, M = r4.1.map vc := ⟨_, rfl⟩
  rw [← hM] at hR29 ⊢
  have HM4 := Aside0.mk hM
  have BM13 := Aside0.mk (BMs.out.trans (hb.mono BMs.out.size))
  have CB13 := Aside0.mk (blk_below CBs.out hb)
  have WB13 := Aside0.mk (blk_below WBs.out hb)
  have RC13 := Aside0.mk (Kd.R_below RCs.out hb)
  have BMt := Aside0.mk (bel2b (v := .slice A13 M4.length c13) (q := .int .i64 r4.2.1) BM13.out (Nat.le_trans hkc3 (Nat.le_of_lt HKW.out)))
  have CBt := Aside0.mk (far2 (v := .slice A13 M4.length c13) (q := .int .i64 r4.2.1) CB13.out hkw2)
  have WBt := Aside0.mk (put2g (v := .slice A13 M4.length c13) (q := .int .i64 r4.2.1) WB13.out)
  have RCt := Aside0.mk (rr2g (v := .slice A13 M4.length c13) (q := .int .i64 r4.2.1) RC13.out WB13.out)
  have RWt := Aside0.mk (hR29.set2 (v := .slice A13 M4.length c13) (q := .int .i64 r4.2.1) WB13.out)
  clear hb hR29 hx hx2 hz hM KR
  have hx := cc2 CB13.out
  have hz := cc2 WB13.out
  obtain ⟨W13, hW⟩ : ∃ W, W = (w13.setCell ⟨kw, 0, none⟩ (.slice A13 M4.length c13)).setCell ⟨kw, 1, none⟩ (.int .i64 r4.2.1) := ⟨_, rfl⟩
  rw [← hW] at BMt CBt WBt RCt RWt
  have HWt := Aside0.mk hW
  have KT := Aside0.mk (told_calls (w := W13) (Kd.R_reads' RCt.out).2.2 RCc.out HrL4.out (RWt.out.reads (HB3.out.trans (BMt.out.mono HB3.out.size))) RWt.out.1.2 HM4.out r4.2.1 r4.2.2 HrE4.out)
  have hx2 := ck2 CBt.out
  have hz2 := ck2 WBt.out
  rw [hW] at KT hx2 hz2
  clear hW
  go_wp2_with fail
  refine KT.out.mono ?_
  rw [← HWt.out]
  rintro e w14 ⟨rfl, hb⟩
  have BM14 := Aside0.mk (BMt.out.trans (hb.mono BMt.out.size))
  have CB14 := Aside0.mk (blk_below CBt.out hb)
  have WB14 := Aside0.mk (blk_below WBt.out hb)
  have RC14 := Aside0.mk (Kd.R_below RCt.out hb)
  clear hb hx hz hx2 hz2 KT BMs CBs WBs RCs BMt CBt WBt RCt RWt HWs HWt BM11 CB11 WB11 BM12 CB12 WB12 BM13 CB13 WB13 RC13 hkc3
  obtain ⟨n, hn⟩ : ∃ n, n = r4.1.length := ⟨_, rfl⟩
  have HNL := Aside0.mk (show n ≤ 1000 by rw [hn]; exact HrL4.out)
  have HRP := Aside0.mk (show 0 < n → ∃ g3 cur, A12 = some ⟨g3, 0, none⟩ ∧ w3.heap.size ≤ g3 ∧ g3 ≠ kc ∧ w14.heap[g3]? = some (.cells cur 34 (0, 0)) ∧ n * 11 ≤ cur.size from fun h => by
    obtain ⟨g3, cur, e, h1, h2⟩ := rowp_of RC14.out (by rw [← hn]; exact h)
    exact ⟨g3, cur, e, h1, blk_ne h2.blk CB14.out (by decide), h2.blk, by rw [h2.size, hn]; exact Nat.mul_le_mul_right 11 h2.le⟩)
  rw [← hn] at CB14 ⊢
  have hx := ck2 CB14.out
  clear hn RC14 WB14
  go_wp2_with fail
  go_loopw [98] (fun i wr => ∃ j : Nat, j ≤ n ∧ i = .int .i64 (j : Nat) ∧ Aside0 (Below w3.heap.size w3 wr) ∧ Aside0 (wr.heap[kc]? = some (.cells #[.slice A12 n c12, .int .i64 r4.2.1] 70 (0, 0))) ∧ Aside0 (0 < n → ∃ g3 cur, A12 = some ⟨g3, 0, none⟩ ∧ w3.heap.size ≤ g3 ∧ g3 ≠ kc ∧ wr.heap[g3]? = some (.cells cur 34 (0, 0)) ∧ n * 11 ≤ cur.size)) (fun i _ => n - (intOf i).toNat)
  case atStart => exact ⟨0, Nat.zero_le _, rfl, BM14, CB14, HRP⟩
  case round =>
    obtain ⟨j, hj, rfl, BMr, CBr, RPr⟩ := hrel
    clear hx
    by_cases hlt : j < n
    · obtain ⟨g3, cur, hA, hB3, hne, hh, hsz⟩ := RPr.out (by omega)
      have hji : (j : Int) < (n : Int) := by omega
      have hx := ck2 CBr.out
      obtain ⟨u77, hcell⟩ : ∃ u, wr.cell? ⟨g3, j * 11 + 8, none⟩ = some u := ⟨_, (blk_cell hh (j * 11 + 8)).trans (Array.getElem?_eq_getElem (show j * 11 + 8 < cur.size by omega))⟩
      have hfro := blk_frozen hh (j * 11 + 8)
      have HH := Aside0.mk hh
      have HNE := Aside0.mk hne
      have HB3 := Aside0.mk hB3
      have HSZ := Aside0.mk hsz
      have hne2 : kc ≠ g3 := fun e => hne e.symm
      have hn1000 := HNL.out
      have hj1 : wrap64 ((j : Int) + 1) = (j : Int) + 1 := w64 (by omega) (by omega)
      have HJ1 := Aside0.mk hj1
      clear hh hsz hB3
      subst hA
      go_wp2_with fail
      go_roundw
      case rel =>
        refine ⟨j + 1, by omega, (by first | go_num | (rw [HJ1.out]; rfl) | rfl), ⟨BMr.out.setCell HB3.out _⟩, ⟨(Below.heap_setCell _ _ _ kc hne2).trans CBr.out⟩, ⟨fun _ => ⟨g3, _, rfl, HB3.out, HNE.out, blk_put HH.out _ _ rfl, by rw [Array.size_setIfInBounds]; exact HSZ.out⟩⟩⟩
      case measure => first | (simp [intOf]; omega) | (simp [intOf, HJ1.out]; omega)
    · obtain rfl : j = n := by omega
      have hji : ¬ ((j : Int) < (j : Int)) := Int.lt_irrefl _
      have BR := Aside0.mk (HL3.out.below BMr.out)
      have HXr := Aside0.mk (Kd.C_below HX3.out BMr.out)
      have HCr := Aside0.mk (Kd.C_below HC.out (HB3.out.trans (BMr.out.mono HB3.out.size)))
      have HWr := Aside0.mk (HB3.out.trans (BMr.out.mono HB3.out.size))
      have HlL := Aside0.mk (show l.length ≤ 1000 by omega)
      have HDoc := Aside0.mk (show ∀ W, Kd.C k34 W A2 l.length L → Calls Try.prog 43 #[.agg #[.slice A2 l.length c2, .int .i64 p]] W (fun e w' => ∃ A7 c7, e = .returned (.agg #[.slice A7 l.length c7, .int .i64 p]) ∧ l.length ≤ c7 ∧ Kd.C k29 w' A7 l.length l ∧ Below W.heap.size W w') from fun W hC => by
        have h := document_calls (w := W) (A := A2) (c := c2) (l := L) (by rw [HLl.out]; exact hC) HXc.out hL10 p
        rw [HLl.out] at h
        refine h.mono ?_
        rintro e w' ⟨v, rfl, hR, hb⟩
        have e1 : L.map vc = l := by rw [HLe.out, map_vc]
        rw [e1] at hR
        obtain ⟨A7, c7, rfl⟩ := Kd.R_slice hR
        exact ⟨A7, c7, rfl, (Kd.R_reads' hR).2.1, (Kd.R_reads' hR).2.2, hb⟩)
      have HProg := Aside0.mk (show ∀ W, Kd.C k29 W A l.length l → Calls Try.prog 36 #[.agg #[.slice A l.length c, .int .i64 p]] W (fun e w' => ∃ A8 c8, e = .returned (.agg #[.slice A8 l.length c8, .int .i64 p]) ∧ l.length ≤ c8 ∧ Kd.C k34 w' A8 l.length L ∧ Below W.heap.size W w') from fun W hC => by
        refine (program_calls hC hcc HlL.out p).mono ?_
        rintro e w' ⟨v, rfl, hR, hb⟩
        rw [← HLe.out] at hR
        obtain ⟨A8, c8, rfl⟩ := Kd.R_slice hR
        rw [HLl.out] at hR
        have h2 := (Kd.R_reads' hR).2
        rw [HLl.out] at h2
        exact ⟨A8, c8, by rw [HLl.out], h2.1, h2.2, hb⟩)
      have HPs := Aside0.mk (show ∀ W A8 c8, Kd.C k34 W A2 l.length L → Kd.C k34 W A8 l.length L → l.length ≤ c8 → Calls Try.prog 44 #[.agg #[.slice A2 l.length c2, .int .i64 p], .agg #[.slice A8 l.length c8, .int .i64 p]] W (fun e w' => e = .returned (.bool true) ∧ Below W.heap.size W w') from fun W A8 c8 h1 h2 h3 => by
        have h := psame_calls (w := W) (A := A2) (B := A8) (c := c2) (d := c8) (l := L) (m := L) (by rw [HLl.out]; exact h1) HXc.out hL10 (by rw [HLl.out]; exact h2) (by rw [HLl.out]; exact h3) p p true ⟨fun _ => ⟨rfl, rfl⟩, fun _ => rfl⟩
        rw [HLl.out] at h
        exact h)
      go_wp2_with fail
      refine start_ (n := 11) (S := fun w' => Below wr.heap.size wr w' ∧ (w'.cell? ⟨g, 0, none⟩ = some (.slice A l.length c) ∧ w'.cell? ⟨g, 1, none⟩ = some (.int .i64 p)) ∧ (w'.cell? ⟨w2.heap.size, 0, none⟩ = some (.slice A2 l.length c2) ∧ w'.cell? ⟨w2.heap.size, 1, none⟩ = some (.int .i64 p))) (ds := []) #[false, false, false, false, false, false, false, false, false, false, false] (by kernel_rfl) rfl rfl ⟨below_drew1 (Below.refl _ _), ck2 (BL.get (BR.out.below (below_drew1 (Below.refl _ _))) 0 rfl), ck2 (BL.get (BR.out.below (below_drew1 (Below.refl _ _))) 1 rfl)⟩ (fun hHeld => ?_)
      refine take_ (i := 0) (N := some 107) (v := ?_) (a' := ?_) #[true, false, false, false, false, false, false, false, false, false, false] rfl rfl (by kernel_rfl) (fun _ _ _ h => h) (Or.inl ⟨by rfl, ?_⟩) hHeld ?_ ?_
      rotate_left
      · rintro w' ⟨s0, s1, s2⟩
        go_simp
        with_reducible rfl
      rotate_left
      · simp only [Act.put, List.setIfInBounds_toArray, List.set_cons_zero, List.set_cons_succ, i64_w, i32_w]
        rfl
      refine take_ (i := 2) (N := some 109) (v := ?_) (a' := ?_) #[true, false, true, false, false, false, false, false, false, false, false] rfl rfl (by kernel_rfl) (fun _ _ _ h => h) (Or.inl ⟨by rfl, ?_⟩) hHeld ?_ ?_
      rotate_left
      · rintro w' ⟨s0, s1, s2⟩
        go_simp
        with_reducible rfl
      rotate_left
      · simp only [Act.put, List.setIfInBounds_toArray, List.set_cons_zero, List.set_cons_succ, i64_w, i32_w]
        rfl
      refine one_ (i := 1) (N := some 108) #[true, true, true, false, false, false, false, false, false, false, false] rfl rfl (by kernel_rfl) (by decide) (fun K hK => ?_)
      refine goes_ Try.func43 (by kernel_rfl) rfl #[.agg #[.slice A2 l.length c2, .int .i64 p]] (by rfl) rfl rfl (by simp only [List.map_toArray, List.map_cons, List.map_nil]; rfl) ?_
      with_reducible refine (HDoc.out _ (Kd.C_below HXr.out hHeld.1)).mono ?_
      rintro e w16 ⟨A7, c7, rfl, hc7, hC7, hb⟩
      refine ⟨_, rfl, ?_⟩
      refine hK.out _ _ ⟨below_step hHeld.1 hb, ck2 (BL.get (BR.out.below (below_step hHeld.1 hb)) 0 rfl), ck2 (BL.get (BR.out.below (below_step hHeld.1 hb)) 1 rfl)⟩ (fun hHeld => ?_)
      clear hK K
      refine norm_ (a' := ?_) ?_ ?_
      rotate_left
      · show Act.put _ (some 108) _ = _
        simp only [Act.put, List.setIfInBounds_toArray, List.set_cons_zero, List.set_cons_succ, i64_w, i32_w]
        rfl
      refine one_ (i := 3) (N := some 110) #[true, true, true, true, false, false, false, false, false, false, false] rfl rfl (by kernel_rfl) (by decide) (fun K hK => ?_)
      refine goes_ Try.func42 (by kernel_rfl) rfl #[.agg #[.slice A7 l.length c7, .int .i64 p], .agg #[.slice A l.length c, .int .i64 p]] (by rfl) rfl rfl (by simp only [List.map_toArray, List.map_cons, List.map_nil]; rfl) ?_
      with_reducible refine (rsame_calls hC7 hc7 HlL.out (Kd.C_below HCr.out hHeld.1) hcc p p true ⟨fun _ => ⟨rfl, rfl⟩, fun _ => rfl⟩).mono ?_
      rintro e w17 ⟨rfl, hb⟩
      refine ⟨_, rfl, ?_⟩
      refine hK.out _ _ ⟨below_step hHeld.1 hb, ck2 (BL.get (BR.out.below (below_step hHeld.1 hb)) 0 rfl), ck2 (BL.get (BR.out.below (below_step hHeld.1 hb)) 1 rfl)⟩ (fun hHeld => ?_)
      clear hK K
      refine norm_ (a' := ?_) ?_ ?_
      rotate_left
      · show Act.put _ (some 110) _ = _
        simp only [Act.put, List.setIfInBounds_toArray, List.set_cons_zero, List.set_cons_succ, i64_w, i32_w]
        rfl
      refine pure_ (i := 4) (N := some 111) (v := ?_) (a' := ?_) #[true, true, true, true, true, false, false, false, false, false, false] rfl rfl (by kernel_rfl) (fun _ _ _ h => h) (Or.inl ⟨by rfl, ?_⟩) ?_ ?_
      rotate_left
      · intro w'
        go_simp
        with_reducible rfl
      rotate_left
      · simp only [Act.put, List.setIfInBounds_toArray, List.set_cons_zero, List.set_cons_succ, i64_w, i32_w]
        rfl
      refine take_ (i := 5) (N := some 112) (v := ?_) (a' := ?_) #[true, true, true, true, true, true, false, false, false, false, false] rfl rfl (by kernel_rfl) (fun _ _ _ h => h) (Or.inl ⟨by rfl, ?_⟩) hHeld ?_ ?_
      rotate_left
      · rintro w' ⟨s0, s1, s2⟩
        go_simp
        with_reducible rfl
      rotate_left
      · simp only [Act.put, List.setIfInBounds_toArray, List.set_cons_zero, List.set_cons_succ, i64_w, i32_w]
        rfl
      refine take_ (i := 6) (N := some 113) (v := ?_) (a' := ?_) #[true, true, true, true, true, true, true, false, false, false, false] rfl rfl (by kernel_rfl) (fun _ _ _ h => h) (Or.inl ⟨by rfl, ?_⟩) hHeld ?_ ?_
      rotate_left
      · rintro w' ⟨s0, s1, s2⟩
        go_simp
        with_reducible rfl
      rotate_left
      · simp only [Act.put, List.setIfInBounds_toArray, List.set_cons_zero, List.set_cons_succ, i64_w, i32_w]
        rfl
      refine one_ (i := 7) (N := some 114) #[true, true, true, true, true, true, true, true, false, false, false] rfl rfl (by kernel_rfl) (by decide) (fun K hK => ?_)
      refine goes_ Try.func36 (by kernel_rfl) rfl #[.agg #[.slice A l.length c, .int .i64 p]] (by rfl) rfl rfl (by simp only [List.map_toArray, List.map_cons, List.map_nil]; rfl) ?_
      with_reducible refine (HProg.out _ (Kd.C_below HCr.out hHeld.1)).mono ?_
      rintro e w18 ⟨A8, c8, rfl, hc8, hC8, hb⟩
      refine ⟨_, rfl, ?_⟩
      refine hK.out _ _ ⟨below_step hHeld.1 hb, ck2 (BL.get (BR.out.below (below_step hHeld.1 hb)) 0 rfl), ck2 (BL.get (BR.out.below (below_step hHeld.1 hb)) 1 rfl)⟩ (fun hHeld => ?_)
      clear hK K
      refine norm_ (a' := ?_) ?_ ?_
      rotate_left
      · show Act.put _ (some 114) _ = _
        simp only [Act.put, List.setIfInBounds_toArray, List.set_cons_zero, List.set_cons_succ, i64_w, i32_w]
        rfl
      refine one_ (i := 8) (N := some 115) #[true, true, true, true, true, true, true, true, true, false, false] rfl rfl (by kernel_rfl) (by decide) (fun K hK => ?_)
      refine goes_ Try.func44 (by kernel_rfl) rfl #[.agg #[.slice A2 l.length c2, .int .i64 p], .agg #[.slice A8 l.length c8, .int .i64 p]] (by rfl) rfl rfl (by simp only [List.map_toArray, List.map_cons, List.map_nil]; rfl) ?_
      with_reducible refine (HPs.out _ A8 c8 (Kd.C_below HXr.out hHeld.1) hC8 hc8).mono ?_
      rintro e w19 ⟨rfl, hb⟩
      refine ⟨_, rfl, ?_⟩
      refine hK.out _ _ ⟨below_step hHeld.1 hb, ck2 (BL.get (BR.out.below (below_step hHeld.1 hb)) 0 rfl), ck2 (BL.get (BR.out.below (below_step hHeld.1 hb)) 1 rfl)⟩ (fun hHeld => ?_)
      clear hK K
      refine norm_ (a' := ?_) ?_ ?_
      rotate_left
      · show Act.put _ (some 115) _ = _
        simp only [Act.put, List.setIfInBounds_toArray, List.set_cons_zero, List.set_cons_succ, i64_w, i32_w]
        rfl
      refine pure_ (i := 9) (N := some 116) (v := ?_) (a' := ?_) #[true, true, true, true, true, true, true, true, true, true, false] rfl rfl (by kernel_rfl) (fun _ _ _ h => h) (Or.inl ⟨by rfl, ?_⟩) ?_ ?_
      rotate_left
      · intro w'
        go_simp
        with_reducible rfl
      rotate_left
      · simp only [Act.put, List.setIfInBounds_toArray, List.set_cons_zero, List.set_cons_succ, i64_w, i32_w]
        rfl
      refine pure_ (i := 10) (N := some 6) (v := ?_) (a' := ?_) #[true, true, true, true, true, true, true, true, true, true, true] rfl rfl (by kernel_rfl) (fun _ _ _ h => h) (Or.inl ⟨by rfl, ?_⟩) ?_ ?_
      rotate_left
      · intro w'
        go_simp
        with_reducible rfl
      rotate_left
      · simp only [Act.put, List.setIfInBounds_toArray, List.set_cons_zero, List.set_cons_succ, i64_w, i32_w]
        rfl
      refine done_ (by kernel_rfl) ?_
      go_wp2_with fail
      go_ret
      exact ⟨rfl, HWr.out.trans (hHeld.1.mono HWr.out.size)⟩
end Go.Proofs.Ytblooffiggciiaa.Ps
/- PsAr -/
namespace Go.Proofs.Ytblooffiggciiaa.Ps
open Go.RowKit Go.Proofs.Ytblooffiggciiaa.PPs Go.Proofs.YtblooffiggciiaaW.PrintWords Go.Proofs.YtblooffiggciiaaW.PrintLast Go.Proofs.YtblooffiggciiaaW.PrintMore Go.Proofs.Ytblooffiggciiaa.Sh
set_option maxRecDepth 100000
attribute [local go_sem] Go.Proofs.Ytblooffiggciiaa.Aid.isSome_setCell
set_option maxHeartbeats 4000000 in
theorem change_out {w : World} {A : Option Addr} {c : Nat} {l : List S29} (hh : 10 < l.length) (p a b : Int) :
    Calls Try.prog 9 #[.agg #[.slice A l.length c, .int .i64 p], .int .i64 a, .int .i64 b] w fun e w' => e = .returned (.bool true) ∧ Below w.heap.size w w' := by
  obtain ⟨g, hg⟩ : ∃ g, g = w.heap.size := ⟨_, rfl⟩
  have hB := b1 (Below.refl w.heap.size w) (.cells #[.slice A l.length c, .int .i64 p] 66)
  have hL := (BL.nil w).new (.cells #[.slice A l.length c, .int .i64 p] 66)
  rw [← hg] at hL
  have HG := Aside0.mk hg
  have hl2 : 10 < (l.length : Int) := by omega
  have HA := Aside0.mk (alive_calls (w.alloc (.cells #[.slice A l.length c, .int .i64 p] 66)))
  have HB := Aside0.mk hB
  have HL := Aside0.mk hL
  clear hg hB hL hh
  go_enter Try.func9, Try.ntmps9
  go_wp2_with fail
  refine HA.out.mono ?_
  rw [← HG.out]
  rintro e w1 ⟨rfl, hb⟩
  have HL1 := Aside0.mk (HL.out.below hb)
  have HB1 := Aside0.mk (below_step HB.out hb)
  clear hb
  have hx := ck2 (HL1.out.get 0 rfl)
  go_wp2_with fail
  go_ret
  exact ⟨rfl, HB1.out⟩
theorem pathsChange_walk (W : World) (A0_0 : Option Addr) (c0_0 : Nat) (l0_0 : (List ((Int × Int × Int × Bool) × (Int × Int × Int) × Int × Int × Int × Int))) (a0_1 : Int) (a1 : Int) (a2 : Int) (hc0_0 : l0_0.length ≤ c0_0) (hr0_0 : Kd.C (Kd.pair (Kd.pair (Kd.int .i64) (Kd.pair (Kd.int .i64) (Kd.pair (Kd.int .i64) Kd.bool))) (Kd.pair (Kd.pair (Kd.int .i64) (Kd.pair (Kd.int .i64) (Kd.int .i64))) (Kd.pair (Kd.int .i64) (Kd.pair (Kd.int .i64) (Kd.pair (Kd.int .u32) (Kd.int .i64)))))) W A0_0 l0_0.length l0_0) (w0_0 : (∀ z0_0 ∈ l0_0, (((Lit.int .i64 z0_0.1.1).wf = true ∧ (Lit.int .i64 z0_0.1.2.1).wf = true ∧ (Lit.int .i64 z0_0.1.2.2.1).wf = true ∧ True) ∧ ((Lit.int .i64 z0_0.2.1.1).wf = true ∧ (Lit.int .i64 z0_0.2.1.2.1).wf = true ∧ (Lit.int .i64 z0_0.2.1.2.2).wf = true) ∧ (Lit.int .i64 z0_0.2.2.1).wf = true ∧ (Lit.int .i64 z0_0.2.2.2.1).wf = true ∧ (Lit.int .u32 z0_0.2.2.2.2.1).wf = true ∧ (Lit.int .i64 z0_0.2.2.2.2.2).wf = true))) (w0_1 : (Lit.int .i64 a0_1).wf = true) (w1 : (Lit.int .i64 a1).wf = true) (w2 : (Lit.int .i64 a2).wf = true) :
    Calls Try.prog 9 #[.agg #[.slice A0_0 l0_0.length c0_0, .int .i64 a0_1], .int .i64 a1, .int .i64 a2] W fun e w' => e = .returned (.bool true) ∧ Below W.heap.size W w' := by
  have e1 : (l0_0.map un).length = l0_0.length := List.length_map ..
  by_cases h : l0_0.length ≤ 10
  · have := change_in (C_un hr0_0) (by rw [e1]; exact hc0_0) (by rw [e1]; exact h) a0_1 a1 a2
    rw [e1] at this
    exact this
  · have := change_out (w := W) (A := A0_0) (c := c0_0) (l := l0_0.map un) (by rw [e1]; omega) a0_1 a1 a2
    rw [e1] at this
    exact this
end Go.Proofs.Ytblooffiggciiaa.Ps
/- Opn -/
namespace Go.Proofs.Ytblooffiggciiaa.Opn
open Go.RowKit Go.Deep Go.WideShapes Go.ChangeShapes Go.Proofs.YtblooffiggciiaaW.PrintWords
def Opn (P : Program) (w : World) (T : TypeId) {α : Type} (d : Kd α) (wf : α → Prop) : Prop :=
  ∀ {H : Type} {enc : TypeId × Value → H} {base : Nat} {spare : Nat → Bool} {held : Bool} {fuel : Nat} {cs : List Value} {y : DataW H × List MemPlace},
    DataW.trod enc P w base spare held fuel T cs = some y → ∃ x, d.K w x cs ∧ wf x

section
variable {P : Program} {w : World} {T e : TypeId} {α β : Type}
theorem int {k : IntKind} (hu : P.underlying T = some (.int k)) : Opn P w T (Kd.int k) (fun x => (Lit.int k x).wf = true) := by
  intro H enc base spare held fuel cs y h
  obtain ⟨n, rfl, _, wn⟩ := DataW.trod_int hu h
  exact ⟨n, rfl, wn⟩
theorem bool (hu : P.underlying T = some .bool) : Opn P w T Kd.bool (fun _ => True) := by
  intro H enc base spare held fuel cs y h
  obtain ⟨n, rfl, _⟩ := DataW.trod_bool hu h
  exact ⟨n, rfl, trivial⟩
theorem list_of {p : Nat → α → Prop} : ∀ (n : Nat), (∀ i, i < n → ∃ x, p i x) → ∃ xs : List α, xs.length = n ∧ ∀ i x, xs[i]? = some x → p i x
  | 0, _ => ⟨[], rfl, fun i x h => by simp at h⟩
  | n + 1, h => by
    obtain ⟨xs, hl, hp⟩ := list_of n (fun i hi => h i (by omega))
    obtain ⟨x, hx⟩ := h n (by omega)
    refine ⟨xs ++ [x], by simp [hl], fun i y hy => ?_⟩
    by_cases hi : i < xs.length
    · rw [List.getElem?_append_left hi] at hy; exact hp i y hy
    · rw [List.getElem?_append_right (by omega)] at hy
      have h0 : i - xs.length = 0 := by
        rcases Nat.eq_zero_or_pos (i - xs.length) with h' | h'
        · exact h'
        · rw [List.getElem?_eq_none (by simp; omega)] at hy; cases hy
      rw [h0] at hy
      simp at hy
      subst hy
      obtain rfl : i = n := by omega
      exact hx

theorem slice {q : Nat} {d : Kd α} {wf : α → Prop} (hu : P.underlying T = some (.slice e)) (hs : P.cellsOf e = d.sz) (he : Opn P w e d wf) :
    Opn P w T (Kd.slice q d) (fun xs => ∀ x ∈ xs, wf x) := by
  intro H enc base spare held fuel cs y h
  rcases open_slice hu h with ⟨rfl, rfl⟩ | ⟨a, len, cap, m, n, D, Pl, rfl, hb, hl, hm, hmm, rfl, hx⟩
  · exact ⟨[], ⟨none, 0, rfl, Nat.le_refl _, rfl, by simp, fun h => absurd h (Nat.lt_irrefl 0)⟩, by simp⟩
  · have hlm : len ≤ m := by rw [hmm]; split <;> omega
    obtain ⟨xs, hlen, hp⟩ := list_of (p := fun i x => (∃ cs', w.cells? base (a.add (i * P.cellsOf e)) (P.cellsOf e) = some cs' ∧ d.K w x cs') ∧ wf x) len (fun i hi => by
      obtain ⟨cs', h1, h2⟩ := hx i (by omega)
      obtain ⟨x, hk, hw⟩ := he h2
      exact ⟨x, ⟨cs', h1, hk⟩, hw⟩)
    refine ⟨xs, ⟨some a, cap, by rw [hlen], by omega, rfl, by unfold maxLen at hm; omega, fun _ => ⟨a, rfl, fun j x hj => ?_⟩⟩, fun x hx' => ?_⟩
    · obtain ⟨⟨cs', h1, hk⟩, _⟩ := hp j x hj
      refine ⟨cs', d.K_len hk, hk, fun i u hu' => ?_⟩
      obtain ⟨_, hl2, hc⟩ := World.cells?_some h1
      have hi : i < cs'.length := by
        rcases Nat.lt_or_ge i cs'.length with h' | h'
        · exact h'
        · rw [List.getElem?_eq_none h'] at hu'; cases hu'
      have := hc i (by omega)
      rw [Deep.add_add, hs] at this
      rw [this]; exact hu'
    · obtain ⟨i, hi⟩ := List.getElem?_of_mem hx'
      exact (hp i x hi).2

def At (w : World) (d : Kd α) (wf : α → Prop) (cs : List Value) : Prop := ∃ x, d.K w x cs ∧ wf x
theorem at_field {d : Kd α} {wf : α → Prop} {H : Type} {enc : TypeId × Value → H} {base : Nat} {spare : Nat → Bool} {held : Bool} {n i o s : Nat} {f : Field} {cs : List Value} {xs : List (DataW H × List MemPlace)}
    (h : DataW.trod enc P w base spare held n f.type ((cs.drop f.offset).take (P.cellsOf f.type)) = xs[i]?) (ho : f.offset = o) (ht : f.type = T) (hs : P.cellsOf T = s) (hi : i < xs.length) (he : Opn P w T d wf) : At w d wf ((cs.drop o).take s) := by
  subst ho; subst ht; subst hs
  rw [List.getElem?_eq_getElem hi] at h
  exact he h
theorem at_pair {a : Kd α} {b : Kd β} {wa : α → Prop} {wb : β → Prop} {cs : List Value} {o s t : Nat} (ha : At w a wa ((cs.drop o).take s)) (hb : At w b wb ((cs.drop (o + s)).take t)) :
    At w (Kd.pair a b) (fun x => wa x.1 ∧ wb x.2) ((cs.drop o).take (s + t)) := by
  obtain ⟨x, hx, w1⟩ := ha
  obtain ⟨y, hy, w2⟩ := hb
  refine ⟨(x, y), ⟨_, _, ?_, hx, hy⟩, w1, w2⟩
  rw [List.take_add, List.drop_drop]
theorem of_at {d : Kd α} {wf : α → Prop} {cs : List Value} {n : Nat} (h : At w d wf ((cs.drop 0).take n)) (hl : cs.length = n) : ∃ x, d.K w x cs ∧ wf x := by
  rw [List.drop_zero, List.take_of_length_le (by omega)] at h
  exact h
theorem array {n : Nat} {d : Kd α} {wf : α → Prop} (hp : 0 < d.sz) (hu : P.underlying T = some (.array n e)) (hs : P.cellsOf e = d.sz) (hT : P.cellsOf T = n * d.sz) (he : Opn P w e d wf) :
    Opn P w T (Kd.arr n d hp) (fun xs => ∀ x ∈ xs, wf x) := by
  intro H enc base spare held fuel cs y h
  obtain ⟨xs, m, rfl, rfl, hl, hlen, hf⟩ := DataW.trod_array hu h
  obtain ⟨zs, hz, hp⟩ := list_of (p := fun i x => d.K w x ((cs.drop (i * d.sz)).take d.sz) ∧ wf x) n (fun i hi => by
    have h0 := hf i hi
    rw [List.getElem?_eq_getElem (by omega), hs] at h0
    exact he h0)
  refine ⟨zs, ⟨hz, by rw [hl, hT, hz], fun m p hm => (hp m p hm).1⟩, fun x hx => ?_⟩
  obtain ⟨i, hi⟩ := List.getElem?_of_mem hx
  exact (hp i x hi).2
end
end Go.Proofs.Ytblooffiggciiaa.Opn
/- RowPathsChange -/
namespace Go.Proofs.Ytblooffiggciiaa.pathsChange
open Go.ChangeShapes Go.WideShapes Go.ChangeAt Go.RowKit Go.Proofs.YtblooffiggciiaaW.PrintWords
open Go.ChangeMaps (open_string shut_string)
theorem own : ownKnob Try.prog.godebug = none := by kernel_rfl
theorem laidOut : laidOutB Try.prog = true := by kernel_rfl
theorem cells64 : Try.prog.cellsOf 64 = 1 := by kernel_rfl
theorem cells27 : Try.prog.cellsOf 27 = 1 := by kernel_rfl
theorem cells26 : Try.prog.cellsOf 26 = 1 := by kernel_rfl
theorem cells25 : Try.prog.cellsOf 25 = 3 := by kernel_rfl
theorem cells23 : Try.prog.cellsOf 23 = 4 := by kernel_rfl
theorem cells4 : Try.prog.cellsOf 4 = 1 := by kernel_rfl
theorem cells3 : Try.prog.cellsOf 3 = 1 := by kernel_rfl
theorem opn23 {W : World} : Opn.Opn Try.prog W 23 (Kd.pair (Kd.int .i64) (Kd.pair (Kd.int .i64) (Kd.pair (Kd.int .i64) Kd.bool))) (fun x => ((Lit.int .i64 x.1).wf = true ∧ (Lit.int .i64 x.2.1).wf = true ∧ (Lit.int .i64 x.2.2.1).wf = true ∧ True)) := by
  intro H enc base spare held fuel cs y h
  obtain ⟨xs, n, _, rfl, hl, hlen, hf⟩ := DataW.trod_struct Try.underlying23 h
  have g0 : Opn.At W (Kd.int .i64) (fun x => (Lit.int .i64 x).wf = true) ((cs.drop 0).take 1) := Opn.at_field (hf 0 _ rfl) rfl rfl cells3 (by rw [hlen]; decide) (Opn.int Try.underlying3)
  have g1 : Opn.At W (Kd.int .i64) (fun x => (Lit.int .i64 x).wf = true) ((cs.drop 1).take 1) := Opn.at_field (hf 1 _ rfl) rfl rfl cells3 (by rw [hlen]; decide) (Opn.int Try.underlying3)
  have g2 : Opn.At W (Kd.int .i64) (fun x => (Lit.int .i64 x).wf = true) ((cs.drop 2).take 1) := Opn.at_field (hf 2 _ rfl) rfl rfl cells3 (by rw [hlen]; decide) (Opn.int Try.underlying3)
  have g3 : Opn.At W Kd.bool (fun x => True) ((cs.drop 3).take 1) := Opn.at_field (hf 3 _ rfl) rfl rfl cells4 (by rw [hlen]; decide) (Opn.bool Try.underlying4)
  obtain ⟨x, hk, hw⟩ := Opn.of_at (Opn.at_pair g0 (Opn.at_pair g1 (Opn.at_pair g2 g3))) (hl.trans (by kernel_rfl))
  exact ⟨x, hk, hw⟩
theorem opn25 {W : World} : Opn.Opn Try.prog W 25 (Kd.pair (Kd.int .i64) (Kd.pair (Kd.int .i64) (Kd.int .i64))) (fun x => ((Lit.int .i64 x.1).wf = true ∧ (Lit.int .i64 x.2.1).wf = true ∧ (Lit.int .i64 x.2.2).wf = true)) := by
  intro H enc base spare held fuel cs y h
  obtain ⟨xs, n, _, rfl, hl, hlen, hf⟩ := DataW.trod_struct Try.underlying25 h
  have g0 : Opn.At W (Kd.int .i64) (fun x => (Lit.int .i64 x).wf = true) ((cs.drop 0).take 1) := Opn.at_field (hf 0 _ rfl) rfl rfl cells3 (by rw [hlen]; decide) (Opn.int Try.underlying3)
  have g1 : Opn.At W (Kd.int .i64) (fun x => (Lit.int .i64 x).wf = true) ((cs.drop 1).take 1) := Opn.at_field (hf 1 _ rfl) rfl rfl cells3 (by rw [hlen]; decide) (Opn.int Try.underlying3)
  have g2 : Opn.At W (Kd.int .i64) (fun x => (Lit.int .i64 x).wf = true) ((cs.drop 2).take 1) := Opn.at_field (hf 2 _ rfl) rfl rfl cells3 (by rw [hlen]; decide) (Opn.int Try.underlying3)
  obtain ⟨x, hk, hw⟩ := Opn.of_at (Opn.at_pair g0 (Opn.at_pair g1 g2)) (hl.trans (by kernel_rfl))
  exact ⟨x, hk, hw⟩
theorem opn29 {W : World} : Opn.Opn Try.prog W 29 (Kd.pair (Kd.pair (Kd.int .i64) (Kd.pair (Kd.int .i64) (Kd.pair (Kd.int .i64) Kd.bool))) (Kd.pair (Kd.pair (Kd.int .i64) (Kd.pair (Kd.int .i64) (Kd.int .i64))) (Kd.pair (Kd.int .i64) (Kd.pair (Kd.int .i64) (Kd.pair (Kd.int .u32) (Kd.int .i64)))))) (fun x => (((Lit.int .i64 x.1.1).wf = true ∧ (Lit.int .i64 x.1.2.1).wf = true ∧ (Lit.int .i64 x.1.2.2.1).wf = true ∧ True) ∧ ((Lit.int .i64 x.2.1.1).wf = true ∧ (Lit.int .i64 x.2.1.2.1).wf = true ∧ (Lit.int .i64 x.2.1.2.2).wf = true) ∧ (Lit.int .i64 x.2.2.1).wf = true ∧ (Lit.int .i64 x.2.2.2.1).wf = true ∧ (Lit.int .u32 x.2.2.2.2.1).wf = true ∧ (Lit.int .i64 x.2.2.2.2.2).wf = true)) := by
  intro H enc base spare held fuel cs y h
  obtain ⟨xs, n, _, rfl, hl, hlen, hf⟩ := DataW.trod_struct Try.underlying29 h
  have g0 : Opn.At W (Kd.pair (Kd.int .i64) (Kd.pair (Kd.int .i64) (Kd.pair (Kd.int .i64) Kd.bool))) (fun x => ((Lit.int .i64 x.1).wf = true ∧ (Lit.int .i64 x.2.1).wf = true ∧ (Lit.int .i64 x.2.2.1).wf = true ∧ True)) ((cs.drop 0).take 4) := Opn.at_field (hf 0 _ rfl) rfl rfl cells23 (by rw [hlen]; decide) opn23
  have g1 : Opn.At W (Kd.pair (Kd.int .i64) (Kd.pair (Kd.int .i64) (Kd.int .i64))) (fun x => ((Lit.int .i64 x.1).wf = true ∧ (Lit.int .i64 x.2.1).wf = true ∧ (Lit.int .i64 x.2.2).wf = true)) ((cs.drop 4).take 3) := Opn.at_field (hf 1 _ rfl) rfl rfl cells25 (by rw [hlen]; decide) opn25
  have g2 : Opn.At W (Kd.int .i64) (fun x => (Lit.int .i64 x).wf = true) ((cs.drop 7).take 1) := Opn.at_field (hf 2 _ rfl) rfl rfl cells26 (by rw [hlen]; decide) (Opn.int Try.underlying26)
  have g3 : Opn.At W (Kd.int .i64) (fun x => (Lit.int .i64 x).wf = true) ((cs.drop 8).take 1) := Opn.at_field (hf 3 _ rfl) rfl rfl cells3 (by rw [hlen]; decide) (Opn.int Try.underlying3)
  have g4 : Opn.At W (Kd.int .u32) (fun x => (Lit.int .u32 x).wf = true) ((cs.drop 9).take 1) := Opn.at_field (hf 4 _ rfl) rfl rfl cells27 (by rw [hlen]; decide) (Opn.int Try.underlying27)
  have g5 : Opn.At W (Kd.int .i64) (fun x => (Lit.int .i64 x).wf = true) ((cs.drop 10).take 1) := Opn.at_field (hf 5 _ rfl) rfl rfl cells3 (by rw [hlen]; decide) (Opn.int Try.underlying3)
  obtain ⟨x, hk, hw⟩ := Opn.of_at (Opn.at_pair g0 (Opn.at_pair g1 (Opn.at_pair g2 (Opn.at_pair g3 (Opn.at_pair g4 g5))))) (hl.trans (by kernel_rfl))
  exact ⟨x, hk, hw⟩
theorem opn64 {W : World} : Opn.Opn Try.prog W 64 (Kd.slice 29 (Kd.pair (Kd.pair (Kd.int .i64) (Kd.pair (Kd.int .i64) (Kd.pair (Kd.int .i64) Kd.bool))) (Kd.pair (Kd.pair (Kd.int .i64) (Kd.pair (Kd.int .i64) (Kd.int .i64))) (Kd.pair (Kd.int .i64) (Kd.pair (Kd.int .i64) (Kd.pair (Kd.int .u32) (Kd.int .i64))))))) (fun x => (∀ zx ∈ x, (((Lit.int .i64 zx.1.1).wf = true ∧ (Lit.int .i64 zx.1.2.1).wf = true ∧ (Lit.int .i64 zx.1.2.2.1).wf = true ∧ True) ∧ ((Lit.int .i64 zx.2.1.1).wf = true ∧ (Lit.int .i64 zx.2.1.2.1).wf = true ∧ (Lit.int .i64 zx.2.1.2.2).wf = true) ∧ (Lit.int .i64 zx.2.2.1).wf = true ∧ (Lit.int .i64 zx.2.2.2.1).wf = true ∧ (Lit.int .u32 zx.2.2.2.2.1).wf = true ∧ (Lit.int .i64 zx.2.2.2.2.2).wf = true))) := Opn.slice Try.underlying64 (by kernel_rfl) opn29
theorem opn66 {W : World} : Opn.Opn Try.prog W 66 (Kd.pair (Kd.slice 29 (Kd.pair (Kd.pair (Kd.int .i64) (Kd.pair (Kd.int .i64) (Kd.pair (Kd.int .i64) Kd.bool))) (Kd.pair (Kd.pair (Kd.int .i64) (Kd.pair (Kd.int .i64) (Kd.int .i64))) (Kd.pair (Kd.int .i64) (Kd.pair (Kd.int .i64) (Kd.pair (Kd.int .u32) (Kd.int .i64))))))) (Kd.int .i64)) (fun x => ((∀ zx1 ∈ x.1, (((Lit.int .i64 zx1.1.1).wf = true ∧ (Lit.int .i64 zx1.1.2.1).wf = true ∧ (Lit.int .i64 zx1.1.2.2.1).wf = true ∧ True) ∧ ((Lit.int .i64 zx1.2.1.1).wf = true ∧ (Lit.int .i64 zx1.2.1.2.1).wf = true ∧ (Lit.int .i64 zx1.2.1.2.2).wf = true) ∧ (Lit.int .i64 zx1.2.2.1).wf = true ∧ (Lit.int .i64 zx1.2.2.2.1).wf = true ∧ (Lit.int .u32 zx1.2.2.2.2.1).wf = true ∧ (Lit.int .i64 zx1.2.2.2.2.2).wf = true)) ∧ (Lit.int .i64 x.2).wf = true)) := by
  intro H enc base spare held fuel cs y h
  obtain ⟨xs, n, _, rfl, hl, hlen, hf⟩ := DataW.trod_struct Try.underlying66 h
  have g0 : Opn.At W (Kd.slice 29 (Kd.pair (Kd.pair (Kd.int .i64) (Kd.pair (Kd.int .i64) (Kd.pair (Kd.int .i64) Kd.bool))) (Kd.pair (Kd.pair (Kd.int .i64) (Kd.pair (Kd.int .i64) (Kd.int .i64))) (Kd.pair (Kd.int .i64) (Kd.pair (Kd.int .i64) (Kd.pair (Kd.int .u32) (Kd.int .i64))))))) (fun x => (∀ zx ∈ x, (((Lit.int .i64 zx.1.1).wf = true ∧ (Lit.int .i64 zx.1.2.1).wf = true ∧ (Lit.int .i64 zx.1.2.2.1).wf = true ∧ True) ∧ ((Lit.int .i64 zx.2.1.1).wf = true ∧ (Lit.int .i64 zx.2.1.2.1).wf = true ∧ (Lit.int .i64 zx.2.1.2.2).wf = true) ∧ (Lit.int .i64 zx.2.2.1).wf = true ∧ (Lit.int .i64 zx.2.2.2.1).wf = true ∧ (Lit.int .u32 zx.2.2.2.2.1).wf = true ∧ (Lit.int .i64 zx.2.2.2.2.2).wf = true))) ((cs.drop 0).take 1) := Opn.at_field (hf 0 _ rfl) rfl rfl cells64 (by rw [hlen]; decide) opn64
  have g1 : Opn.At W (Kd.int .i64) (fun x => (Lit.int .i64 x).wf = true) ((cs.drop 1).take 1) := Opn.at_field (hf 1 _ rfl) rfl rfl cells3 (by rw [hlen]; decide) (Opn.int Try.underlying3)
  obtain ⟨x, hk, hw⟩ := Opn.of_at (Opn.at_pair g0 g1) (hl.trans (by kernel_rfl))
  exact ⟨x, hk, hw⟩
set_option maxRecDepth 100000 in
theorem lifted (os : Os) (started : os.Started) (H : Type) (enc : TypeId × Value → H) :
    ReturnsInHanded {} Try.checked os 9 .any (Rows.pathsChangeSpec.pre6 enc Try.prog Try.f9 Rows.pathsChangeRow.domain false) (Rows.pathsChangeSpec.post enc Try.prog Try.f9 false true false false) := by
  refine returnsInHanded_of_change_sized (C := Try.checked) own started (by kernel_rfl) Try.func9
    (ChangeSpec.witness6 (enc := enc) (C := Try.checked) false ⟨#[], #[.agg #[.slice none 0 0, .int .i64 0], .int .i64 0, .int .i64 0], []⟩ 8 (by kernel_rfl) (by kernel_rfl) (by kernel_rfl) (by kernel_rfl)) ?_
  intro W base args ds gs before hval0 hW hcnd hsz0 _
  have hval : ∀ (j : Nat) t v, Try.f9.params[j]? = some t → args[j]? = some v → Value.okWide Try.prog W .any base t v := hval0
  have hW' := hW
  obtain ⟨p, q, hA0, hV, rfl, hfz, hnd⟩ := hW
  have hA : DataW.TrodAll enc Try.prog W 0 (fun _ => true) true Try.f9.params.toList args.toList ds p := hA0
  rw [Try.params9] at hA hval
  obtain ⟨v0, vs0, d0, ds0, p0, q0, hargs, rfl, rfl, h0, r0⟩ := trodAll_cons hA
  obtain ⟨v1, vs1, d1, ds1, p1, q1, rfl, rfl, rfl, h1, r1⟩ := trodAll_cons r0
  obtain ⟨v2, vs2, d2, ds2, p2, q2, rfl, rfl, rfl, h2, r2⟩ := trodAll_cons r1
  obtain ⟨rfl, rfl, rfl⟩ := trodAll_nil r2
  obtain rfl : args = #[v0, v1, v2] := by cases args; simp_all
  obtain ⟨rfl, rfl⟩ := trodVars_none hV
  have kk0 := h0
  have lt0 : ∀ x ∈ p0, x.block < W.heap.size := by obtain ⟨m, hm⟩ := kk0; exact DataW.trod_lt m _ _ _ hm
  obtain ⟨fu0, hf0⟩ := h0
  obtain ⟨cs0, rfl, _⟩ := okWide_struct Try.underlying66 (hval 0 66 v0 rfl rfl)
  obtain ⟨xx0, hk0, ww0⟩ := opn66 hf0
  obtain ⟨l0_0, a0_1⟩ := xx0
  obtain ⟨z0, hz0⟩ : ∃ z, z = (Value.agg cs0).cells.toList := ⟨_, rfl⟩
  rw [← hz0] at hk0
  obtain ⟨_, _, rfl, ⟨A0_0, c0_0, rfl, hc0_0, hr0_0⟩, rfl⟩ := hk0
  simp only [Value.cells, List.cons_append, List.nil_append] at hz0
  obtain rfl : cs0 = #[.slice A0_0 l0_0.length c0_0, .int .i64 a0_1] := by rw [← Array.toArray_toList (xs := cs0), ← hz0]
  obtain ⟨w0_0, w0_1⟩ := ww0
  have kk1 := h1
  have lt1 : ∀ x ∈ p1, x.block < W.heap.size := by obtain ⟨m, hm⟩ := kk1; exact DataW.trod_lt m _ _ _ hm
  obtain ⟨a1, rfl, rfl, rfl, w1⟩ := open_int Try.underlying26 (hval 1 26 v1 rfl rfl) h1
  have kk2 := h2
  have lt2 : ∀ x ∈ p2, x.block < W.heap.size := by obtain ⟨m, hm⟩ := kk2; exact DataW.trod_lt m _ _ _ hm
  obtain ⟨a2, rfl, rfl, rfl, w2⟩ := open_int Try.underlying26 (hval 2 26 v2 rfl rfl) h2
  clear hA0 hval0 hsz0
  refine (Ps.pathsChange_walk W _ _ _ _ a1 a2 hc0_0 hr0_0 w0_0 w0_1 w1 w2).mono fun e W' ⟨he, bel⟩ => ?_
  subst he
  exact ⟨_, rfl, _, _, _, [], _, [], hW', trodAll_mk1 (shut_bool Try.underlying4 _), (trodAll_cons_mk (Below.trod laidOut (by kernel_rfl) (of_decide_eq_true (by kernel_rfl)) kk0 bel lt0) (trodAll_cons_mk (Below.trod laidOut (by kernel_rfl) (of_decide_eq_true (by kernel_rfl)) kk1 bel lt1) (trodAll_cons_mk (Below.trod laidOut (by kernel_rfl) (of_decide_eq_true (by kernel_rfl)) kk2 bel lt2) trodAll_mk0))), rfl, bel.frame _, fun h => by cases h⟩
theorem over : Rows.pathsChangeRow.holds Try.pinned (OpenSpec.ofChange Rows.pathsChangeSpec) :=
  OpenClaim.holds_of_wide 9 Try.f9 rfl rfl rfl rfl rfl rfl rfl ⟨rfl, rfl, rfl, rfl, rfl⟩ rfl rfl rfl rfl rfl (by kernel_rfl) Try.func9 (by kernel_rfl)
    (of_decide_eq_true (by kernel_rfl)) (by unfold Func.isWrapper; first | (rw [if_pos (by decide +kernel)]; kernel_rfl) | (rw [if_neg (by decide +kernel)]; exact ⟨rfl, rfl⟩))
    (fun os started H enc _ => lifted os started H enc)
end Go.Proofs.Ytblooffiggciiaa.pathsChange
namespace Go.Proofs.Ytblooffiggciiaa
theorem pathsChange_holds : Rows.PathsChangeSaid := pathsChange.over
#print axioms pathsChange_holds
end Go.Proofs.Ytblooffiggciiaa
