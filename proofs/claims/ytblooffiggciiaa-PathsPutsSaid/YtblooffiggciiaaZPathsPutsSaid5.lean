/- PathsPuts: for every input the law returns true, and its arguments read as before: the row, out of the walk; no condition. -/
import Derived.Test.YtblooffiggciiaaZPathsPutsSaid4
import Derived.ProofKit
import Derived.OpenShut
import Derived.Deep.Slices
import Derived.ChangeArms
import Derived.Test.YtblooffiggciiaaRows
import Derived.WalkKit
import Derived.ShutString
import Derived.ChangeOld
import Derived.Below
import Derived.SizedLaws
import Derived.Carry
/- PsAc -/
namespace Go.Proofs.Ytblooffiggciiaa.Ps
open Go.RowKit Go.Proofs.Ytblooffiggciiaa.PPs Go.Proofs.YtblooffiggciiaaW.PrintWords Go.Proofs.YtblooffiggciiaaW.PrintLast Go.Proofs.YtblooffiggciiaaW.PrintMore Go.Proofs.Ytblooffiggciiaa.Sh
set_option linter.unusedVariables false
set_option linter.unusedSimpArgs false
abbrev PT : Type := (Int × Int × Int × Bool) × (Int × Int × Int) × Int × Int × Int × Int
abbrev PK : Kd PT := Kd.pair (Kd.pair (Kd.int .i64) (Kd.pair (Kd.int .i64) (Kd.pair (Kd.int .i64) Kd.bool))) (Kd.pair (Kd.pair (Kd.int .i64) (Kd.pair (Kd.int .i64) (Kd.int .i64))) (Kd.pair (Kd.int .i64) (Kd.pair (Kd.int .i64) (Kd.pair (Kd.int .u32) (Kd.int .i64)))))
def un (z : PT) : S29 := ⟨⟨z.1.1, z.1.2.1, z.1.2.2.1, z.1.2.2.2⟩, ⟨z.2.1.1, z.2.1.2.1, z.2.1.2.2⟩, z.2.2.1, z.2.2.2.1, z.2.2.2.2.1, z.2.2.2.2.2⟩
theorem C_un {w : World} {A : Option Addr} {l : List PT} (h : Kd.C PK w A l.length l) : Kd.C k29 w A (l.map un).length (l.map un) := by
  obtain ⟨h1, h2, h3⟩ := h
  refine ⟨rfl, by rw [List.length_map]; exact h2, fun h0 => ?_⟩
  obtain ⟨ad, e, hc⟩ := h3 (by rw [List.length_map] at h0; exact h0)
  refine ⟨ad, e, fun j p hp => ?_⟩
  rw [List.getElem?_map, Option.map_eq_some_iff] at hp
  obtain ⟨z, hz, rfl⟩ := hp
  obtain ⟨c, a1, a2, a3⟩ := hc j z hz
  exact ⟨c, a1, a2, a3⟩
theorem map_vc_inj {l m : List S34} (h : l.map vc = m.map vc) : l = m := by
  have h1 := congrArg (List.map cv) h
  rw [List.map_map, List.map_map] at h1
  have : cv ∘ vc = id := rfl
  rw [this, List.map_id, List.map_id] at h1
  exact h1
def df34 (x y : S34) : Bool := ((!((x.f0.f0) == (y.f0.f0)) || (!((x.f0.f1) == (y.f0.f1)) || (!((x.f0.f2) == (y.f0.f2)) || (!((x.f0.f3) == (y.f0.f3)))))) || ((!((x.f1.f0) == (y.f1.f0)) || (!((x.f1.f1) == (y.f1.f1)) || (!((x.f1.f2) == (y.f1.f2))))) || (!((x.f2) == (y.f2)) || (!((x.f3) == (y.f3)) || (!((x.f4) == (y.f4)) || (!((x.f5) == (y.f5))))))))
theorem df34_iff (x y : S34) : df34 x y = false ↔ x = y := by
  obtain ⟨⟨x0, x1, x2, x3⟩, ⟨x4, x5, x6⟩, x7, x8, x9, x10⟩ := x
  obtain ⟨⟨y0, y1, y2, y3⟩, ⟨y4, y5, y6⟩, y7, y8, y9, y10⟩ := y
  unfold df34
  simp only [Bool.or_eq_false_iff, Bool.not_eq_false', beq_iff_eq, S34.mk.injEq, S31.mk.injEq, S32.mk.injEq]
theorem psame_l (l m : List S34) (hlm : l.length = m.length) (hl : l.length ≤ 1000) : ∀ (n j k : Nat) (b : Bool), j + n = l.length → n < k → (b = true ↔ ∀ i, j ≤ i → i < l.length → l[i]? = m[i]?) → path_Path_86.l0 k l m (l.length : Int) (j : Int) = some b
  | 0, j, k + 1, b, h, _, hb => by
    rw [path_Path_86.l0, if_neg (by omega), hb.2 (fun i h1 h2 => absurd h1 (by omega))]
  | n + 1, j, k + 1, b, h, hk, hb => by
    have hj : j < l.length := by omega
    have hm : j < m.length := by omega
    rw [path_Path_86.l0, if_pos (by omega), if_pos (by omega), if_pos (by omega), if_pos (by omega), rd34 l j hj, rd34 m j hm]
    by_cases hd : l[j] = m[j]
    · rw [if_neg (by have := (df34_iff l[j] m[j]).2 hd; unfold df34 at this; rw [this]; simp), next_i j (by omega)]
      refine psame_l l m hlm hl n (j + 1) k b (by omega) (by omega) (hb.trans ⟨fun h i h1 h2 => h i (by omega) h2, fun h i h1 h2 => ?_⟩)
      by_cases hij : i = j
      · subst hij; rw [List.getElem?_eq_getElem hj, List.getElem?_eq_getElem hm, hd]
      · exact h i (by omega) h2
    · rw [if_pos (by have : df34 l[j] m[j] = true := by { rw [← Bool.not_eq_false]; exact fun h => hd ((df34_iff _ _).1 h) }; unfold df34 at this; exact this)]
      congr 1
      symm
      rw [Bool.eq_false_iff]
      intro h
      have := hb.1 h j (Nat.le_refl _) hj
      rw [List.getElem?_eq_getElem hj, List.getElem?_eq_getElem hm] at this
      exact hd (Option.some.inj this)
theorem psame_f {l m : List S34} {p q : Int} {k : Nat} (hl : l.length ≤ 1000) (hk : l.length + 1 < k) (b : Bool) (hb : b = true ↔ (l = m ∧ p = q)) : paths_Same.f k l p m q = some b := by
  unfold paths_Same.f
  by_cases hp : p = q
  · rw [if_pos hp]
    unfold path_Path_86.f
    by_cases hn : l.length = m.length
    · rw [if_pos (by rw [hn])]
      have := psame_l l m hn hl l.length 0 k b (by omega) (by omega) (hb.trans ⟨?_, fun h => ⟨List.ext_getElem? fun i => ?_, hp⟩⟩)
      · rw [show (0 : Int) = ((0 : Nat) : Int) from rfl, this]; rfl
      · rintro ⟨rfl, _⟩ i _ _; rfl
      · by_cases hi : i < l.length
        · exact h i (Nat.zero_le _) hi
        · rw [List.getElem?_eq_none (by omega), List.getElem?_eq_none (by omega)]
    · rw [if_neg (by omega)]
      show some false = some b
      congr 1
      symm
      rw [Bool.eq_false_iff]
      intro h
      exact hn (by rw [(hb.1 h).1])
  · rw [if_neg hp]
    congr 1
    symm
    rw [Bool.eq_false_iff]
    intro h
    exact hp (hb.1 h).2
theorem num_f (er : Option Int) (h : er ≠ some 0) : weftlinenum_Num.f er = some (erN er) := by
  cases er with
  | none => rfl
  | some e => unfold weftlinenum_Num.f erN; rw [if_neg (by simp), if_neg (fun h2 => h (by rw [← show e = 0 from h2]))]; rfl
theorem told_f {l : List S34} {q : Int} {er : Option Int} {k : Nat} (hl : l.length ≤ 1000) (hk : l.length + 1 < k) (he : er ≠ some 0) : weftlinelaw14_told.f k l q er (l.map vc) q (erN er) = some true := by
  unfold weftlinelaw14_told.f
  rw [num_f er he]
  show (if erN er = erN er then _ else _) = _
  rw [if_pos rfl, doc_f hl (by omega)]
  show ((weftlineref14_Same.f k (l.map vc) q (l.map vc) q).bind fun t => some t) = _
  rw [same_f (by rw [List.length_map]; exact hl) (by rw [List.length_map]; exact hk) true (by simp)]
  rfl
section
variable {w : World} {A B : Option Addr} {c d : Nat}
theorem program_calls {l : List S29} (hC : Kd.C k29 w A l.length l) (hcc : l.length ≤ c) (hl : l.length ≤ 1000) (p : Int) :
    Calls Try.prog 36 #[.agg #[.slice A l.length c, .int .i64 p]] w fun e w' => ∃ v, e = .returned (.agg #[v, .int .i64 p]) ∧ Kd.R k34 34 w' w.heap.size (fun _ => True) v (l.map cv) ∧ Below w.heap.size w w' :=
  weftlinelaw14_Program.calls (l.length + 1) A c l p _ _ w hC hcc (prog_f hl (by omega))
theorem document_calls {l : List S34} (hC : Kd.C k34 w A l.length l) (hcc : l.length ≤ c) (hl : l.length ≤ 1000) (p : Int) :
    Calls Try.prog 43 #[.agg #[.slice A l.length c, .int .i64 p]] w fun e w' => ∃ v, e = .returned (.agg #[v, .int .i64 p]) ∧ Kd.R k29 29 w' w.heap.size (fun _ => True) v (l.map vc) ∧ Below w.heap.size w w' :=
  weftlinelaw14_Document.calls (l.length + 1) A c l p _ _ w hC hcc (doc_f hl (by omega))
theorem told_calls {l : List S34} {m : List S29} (hC : Kd.C k34 w A l.length l) (hcc : l.length ≤ c) (hl : l.length ≤ 1000) (hD : Kd.C k29 w B m.length m) (hdd : m.length ≤ d) (hm : m = l.map vc) (q : Int) (er : Option Int) (he : er ≠ some 0) :
    Calls Try.prog 41 #[.agg #[.slice A l.length c, .int .i64 q], errW er, .agg #[.slice B m.length d, .int .i64 q], .int .i64 (erN er)] w fun e w' => e = .returned (.bool true) ∧ Below w.heap.size w w' :=
  weftlinelaw14_told.calls (l.length + 2) A c l q er B d m q (erN er) true w hC hcc hD hdd (by rw [hm]; exact told_f hl (by omega) he)
theorem rsame_calls {l m : List S29} (hC : Kd.C k29 w A l.length l) (hcc : l.length ≤ c) (hl : l.length ≤ 1000) (hD : Kd.C k29 w B m.length m) (hdd : m.length ≤ d) (p q : Int) (b : Bool) (hb : b = true ↔ (l = m ∧ p = q)) :
    Calls Try.prog 42 #[.agg #[.slice A l.length c, .int .i64 p], .agg #[.slice B m.length d, .int .i64 q]] w fun e w' => e = .returned (.bool b) ∧ Below w.heap.size w w' :=
  weftlineref14_Same.calls (l.length + 2) A c l p B d m q b w hC hcc hD hdd (same_f hl (by omega) b hb)
theorem psame_calls {l m : List S34} (hC : Kd.C k34 w A l.length l) (hcc : l.length ≤ c) (hl : l.length ≤ 1000) (hD : Kd.C k34 w B m.length m) (hdd : m.length ≤ d) (p q : Int) (b : Bool) (hb : b = true ↔ (l = m ∧ p = q)) :
    Calls Try.prog 44 #[.agg #[.slice A l.length c, .int .i64 p], .agg #[.slice B m.length d, .int .i64 q]] w fun e w' => e = .returned (.bool b) ∧ Below w.heap.size w w' :=
  paths_Same.calls (l.length + 2) A c l p B d m q b w hC hcc hD hdd (psame_f hl (by omega) b hb)
theorem rput_calls {l : List S29} (hC : Kd.C k29 w A l.length l) (hcc : l.length ≤ c) (hl : l.length ≤ 1000) (p : Int) (x : S29) :
    Calls Try.prog 38 #[.agg #[.slice A l.length c, .int .i64 p], .agg (cs34 (cv x)).toArray] w fun e w' => ∃ v, e = .returned (.tuple #[.agg #[v, .int .i64 (putL (l.map cv) p (cv x)).2.1], .int .i64 (erN (putL (l.map cv) p (cv x)).2.2)]) ∧ Kd.R k29 29 w' w.heap.size (fun _ => True) v ((putL (l.map cv) p (cv x)).1.map vc) ∧ Below w.heap.size w w' :=
  weftlineref14_Put.calls (2 * l.length + 5) A c l p _ _ _ _ _ _ _ _ _ _ _ _ _ _ w hC hcc (put_f x hl (by omega))
theorem rnew_calls {l : List Int} (hC : Kd.C (Kd.int .i64) w A l.length l) (hcc : l.length ≤ c) (hl : l.length ≤ 1000) :
    Calls Try.prog 40 #[.slice A l.length c] w fun e w' => ∃ v, e = .returned (.tuple #[.agg #[v, .int .i64 (newL l).2.1], .int .i64 (erN (newL l).2.2)]) ∧ Kd.R k29 29 w' w.heap.size (fun _ => True) v ((newL l).1.map vc) ∧ Below w.heap.size w w' :=
  weftlineref14_New.calls (3 * l.length + 11) A c l _ _ _ w hC hcc (new_f hl (by omega))
end
end Go.Proofs.Ytblooffiggciiaa.Ps
/- PsAd -/
namespace Go.Proofs.Ytblooffiggciiaa.Ps
open Go.RowKit Go.Proofs.Ytblooffiggciiaa.PPs Go.Proofs.YtblooffiggciiaaW.PrintWords Go.Proofs.YtblooffiggciiaaW.PrintLast Go.Proofs.YtblooffiggciiaaW.PrintMore Go.Proofs.Ytblooffiggciiaa.Sh
set_option linter.unusedVariables false
set_option linter.unusedSimpArgs false
attribute [local go_sem] Go.Proofs.Ytblooffiggciiaa.Aid.isSome_setCell
theorem p13x (x : S29) (w : World) : Calls Try.prog 12 #[.agg #[.int .i64 x.f0.f0, .int .i64 x.f0.f1, .int .i64 x.f0.f2, .bool x.f0.f3, .int .i64 x.f1.f0, .int .i64 x.f1.f1, .int .i64 x.f1.f2, .int .i64 x.f2, .int .i64 x.f3, .int .u32 x.f4, .int .i64 x.f5]] w fun e w' => e = .returned (.agg #[.int .i64 x.f0.f0, .int .i64 x.f0.f1, .int .i64 x.f0.f2, .bool x.f0.f3, .int .i64 x.f1.f0, .int .i64 x.f1.f1, .int .i64 x.f1.f2, .int .i64 x.f2, .int .i64 x.f3, .int .u32 x.f4, .int .i64 x.f5]) ∧ Below w.heap.size w w' :=
  weftlinelaw13_Program.calls x.f0.f0 x.f0.f1 x.f0.f2 x.f0.f3 x.f1.f0 x.f1.f1 x.f1.f2 x.f2 x.f3 x.f4 x.f5 _ _ _ _ _ _ _ _ _ _ _ w rfl
theorem rput2 {w : World} {A : Option Addr} {c : Nat} {l : List S29} (hC : Kd.C k29 w A l.length l) (hcc : l.length ≤ c) (hl : l.length ≤ 1000) (p : Int) (x : S29) (r : List S34 × Int × Option Int) (hr : r = putL (l.map cv) p (cv x)) :
    Calls Try.prog 38 #[.agg #[.slice A l.length c, .int .i64 p], .agg #[.int .i64 x.f0.f0, .int .i64 x.f0.f1, .int .i64 x.f0.f2, .bool x.f0.f3, .int .i64 x.f1.f0, .int .i64 x.f1.f1, .int .i64 x.f1.f2, .int .i64 x.f2, .int .i64 x.f3, .int .u32 x.f4, .int .i64 x.f5]] w fun e w' => ∃ v, e = .returned (.tuple #[.agg #[v, .int .i64 r.2.1], .int .i64 (erN r.2.2)]) ∧ Kd.R k29 29 w' w.heap.size (fun _ => True) v (r.1.map vc) ∧ Below w.heap.size w w' := by
  rw [hr]; exact rput_calls hC hcc hl p x
theorem fnd_er (l : List S34) (p a : Int) : (fnd l p a).2 ≠ some 0 := by
  unfold fnd
  repeat' split
  all_goals simp
theorem putL_len (l : List S34) (p : Int) (x : S34) : (putL l p x).1.length ≤ l.length := by
  unfold putL
  split
  · split
    · simp
    · simp
  · simp
theorem putL_er (l : List S34) (p : Int) (x : S34) : (putL l p x).2.2 ≠ some 0 := by
  unfold putL
  split
  · split
    · simp
    · rename_i h; have := fnd_er l p x.f2; rw [h] at this; exact this
  · simp
theorem newL_len (l : List Int) : (newL l).1.length ≤ l.length := by
  unfold newL
  repeat' split
  all_goals simp
theorem newL_er (l : List Int) : (newL l).2.2 ≠ some 0 := by
  unfold newL
  repeat' split
  all_goals simp
set_option maxHeartbeats 4000000 in
set_option maxRecDepth 100000 in
theorem puts_in {w : World} {A B : Option Addr} {c d : Nat} {l : List S29} {m : List Int} (hC : Kd.C k29 w A l.length l) (hcc : l.length ≤ c) (hl : l.length ≤ 10) (p : Int) (x : S29) (hD : Kd.C (Kd.int .i64) w B m.length m) (hdd : m.length ≤ d) (hm : m.length ≤ 20) :
    Calls Try.prog 7 #[.agg #[.slice A l.length c, .int .i64 p], .agg #[.int .i64 x.f0.f0, .int .i64 x.f0.f1, .int .i64 x.f0.f2, .bool x.f0.f3, .int .i64 x.f1.f0, .int .i64 x.f1.f1, .int .i64 x.f1.f2, .int .i64 x.f2, .int .i64 x.f3, .int .u32 x.f4, .int .i64 x.f5], .slice B m.length d] w fun e w' => e = .returned (.bool true) ∧ Below w.heap.size w w' := by
  obtain ⟨g, hg⟩ : ∃ g, g = w.heap.size := ⟨_, rfl⟩
  have HB := Aside0.mk (b1 (b1 (Below.refl w.heap.size w) (.cells #[.slice A l.length c, .int .i64 p] 66)) (.cells (cs34 (cv x)).toArray 29))
  have HX := Aside0.mk (q3 (blk_new w (.cells #[.slice A l.length c, .int .i64 p] 66)) (.cells (cs34 (cv x)).toArray 29))
  have HY := Aside0.mk (blk_new (w.alloc (.cells #[.slice A l.length c, .int .i64 p] 66)) (.cells (cs34 (cv x)).toArray 29))
  rw [sz1] at HY
  rw [← hg] at HX HY
  have HG := Aside0.mk hg
  have HC := Aside0.mk hC
  have HD := Aside0.mk hD
  have hl2 : (l.length : Int) ≤ 10 := by omega
  have hm2 : (m.length : Int) ≤ 20 := by omega
  have HA := Aside0.mk (alive_calls ((w.alloc (.cells #[.slice A l.length c, .int .i64 p] 66)).alloc (.cells (cs34 (cv x)).toArray 29)))
  clear hg hC hD
  unfold cs34 at HB HX HY HA
  go_enter Try.func7, Try.ntmps7
  go_wp2_with fail
  refine HA.out.mono ?_
  rw [← HG.out]
  rintro e w1 ⟨rfl, hb⟩
  have BX1 := Aside0.mk (blk_below HX.out hb)
  have BY1 := Aside0.mk (blk_below HY.out hb)
  have HB1 := Aside0.mk (below_step HB.out hb)
  clear hb
  have hx := ck2 BX1.out
  have HP := Aside0.mk (program_calls (w := w1) (Kd.C_below HC.out HB1.out) hcc (by omega) p)
  go_wp2_with fail
  refine HP.out.mono ?_
  rintro e w2 ⟨v, rfl, hR, hb⟩
  obtain ⟨A2, c2, rfl⟩ := Kd.R_slice hR
  have hlm : (l.map cv).length = l.length := List.length_map ..
  have HP1 := Aside0.mk (Kd.R_reads' hR).2.1
  have HP2 := Aside0.mk (Kd.R_reads' hR).2.2
  obtain ⟨L, hL⟩ : ∃ L, L = l.map cv := ⟨_, rfl⟩
  rw [← hL] at hlm HP1 HP2 ⊢
  rw [hlm] at HP1 HP2 ⊢
  have HL := Aside0.mk hL
  have HLl := Aside0.mk hlm
  have BX2 := Aside0.mk (q3 (blk_below BX1.out hb) (.cells #[.slice A2 l.length c2, .int .i64 p] 70))
  have BY2 := Aside0.mk (q3 (blk_below BY1.out hb) (.cells #[.slice A2 l.length c2, .int .i64 p] 70))
  have BZ2 := Aside0.mk (blk_new w2 (.cells #[.slice A2 l.length c2, .int .i64 p] 70))
  have HB2 := Aside0.mk (b1 (below_step HB1.out hb) (.cells #[.slice A2 l.length c2, .int .i64 p] 70))
  have HP3 := Aside0.mk (Kd.C_alloc HP2.out (.cells #[.slice A2 l.length c2, .int .i64 p] 70))
  obtain ⟨r, hr⟩ : ∃ r, r = putL L p (cv x) := ⟨_, rfl⟩
  have HPu := Aside0.mk (show ∀ W, Kd.C k34 W A2 l.length L → Calls Try.prog 37 #[.agg #[.slice A2 l.length c2, .int .i64 p], .agg #[.int .i64 x.f0.f0, .int .i64 x.f0.f1, .int .i64 x.f0.f2, .bool x.f0.f3, .int .i64 x.f1.f0, .int .i64 x.f1.f1, .int .i64 x.f1.f2, .int .i64 x.f2, .int .i64 x.f3, .int .u32 x.f4, .int .i64 x.f5]] W (SetR W r.1 r.2.1 r.2.2) from fun W hC => by
    have h := put_calls (w := W) (A := A2) (c := c2) (l := L) (by rw [hlm]; exact hC) (by rw [hlm]; exact HP1.out) (by rw [hlm]; omega) p (cv x)
    rw [hlm, ← hr] at h
    exact h)
  have HR := Aside0.mk hr
  clear hr
  obtain ⟨h, hh⟩ : ∃ h, h = w2.heap.size := ⟨_, rfl⟩
  obtain ⟨W2, hW⟩ : ∃ W2, W2 = w2.alloc (.cells #[.slice A2 l.length c2, .int .i64 p] 70) := ⟨_, rfl⟩
  clear hb hR hx hL hlm HP2
  have hx := ck2 BZ2.out
  have hy := ck11 BY2.out
  rw [← hW] at BX2 BY2 BZ2 HB2 HP3 hx hy
  rw [← hh] at BZ2 hx
  have HW := Aside0.mk hW
  have HH := Aside0.mk hh
  clear hW hh
  go_wp2_with fail
  rw [← HW.out, ← HH.out]
  -- REGION 6 (printed)
  refine start_ (n := 10) (S := fun w' => Below W2.heap.size W2 w' ∧ (w'.cell? ⟨h, 0, none⟩ = some (.slice A2 l.length c2) ∧ w'.cell? ⟨h, 1, none⟩ = some (.int .i64 p)) ∧ (w'.cell? ⟨g + 1, 0, none⟩ = some (.int .i64 x.f0.f0) ∧ w'.cell? ⟨g + 1, 1, none⟩ = some (.int .i64 x.f0.f1) ∧ w'.cell? ⟨g + 1, 2, none⟩ = some (.int .i64 x.f0.f2) ∧ w'.cell? ⟨g + 1, 3, none⟩ = some (.bool x.f0.f3) ∧ w'.cell? ⟨g + 1, 4, none⟩ = some (.int .i64 x.f1.f0) ∧ w'.cell? ⟨g + 1, 5, none⟩ = some (.int .i64 x.f1.f1) ∧ w'.cell? ⟨g + 1, 6, none⟩ = some (.int .i64 x.f1.f2) ∧ w'.cell? ⟨g + 1, 7, none⟩ = some (.int .i64 x.f2) ∧ w'.cell? ⟨g + 1, 8, none⟩ = some (.int .i64 x.f3) ∧ w'.cell? ⟨g + 1, 9, none⟩ = some (.int .u32 x.f4) ∧ w'.cell? ⟨g + 1, 10, none⟩ = some (.int .i64 x.f5))) (ds := []) #[false, false, false, false, false, false, false, false, false, false] (by kernel_rfl) rfl rfl ⟨below_drew1 (Below.refl _ _), ck2 (blk_below BZ2.out (below_drew1 (Below.refl _ _))), ck11 (blk_below BY2.out (below_drew1 (Below.refl _ _)))⟩ (fun hHeld => ?_)
  generalize W2.drew = W3 at hHeld ⊢
  refine take_ (i := 0) (N := some 30) (v := ?_) (a' := ?_) #[true, false, false, false, false, false, false, false, false, false] rfl rfl (by kernel_rfl) (fun _ _ _ h => h) (Or.inl ⟨by rfl, ?_⟩) hHeld ?_ ?_
  rotate_left
  · rintro w' ⟨s0, s1, s2⟩
    go_simp
    with_reducible rfl
  rotate_left
  · simp only [Act.put, List.setIfInBounds_toArray, List.set_cons_zero, List.set_cons_succ, i64_w, i32_w]
    rfl
  refine take_ (i := 1) (N := some 31) (v := ?_) (a' := ?_) #[true, true, false, false, false, false, false, false, false, false] rfl rfl (by kernel_rfl) (fun _ _ _ h => h) (Or.inl ⟨by rfl, ?_⟩) hHeld ?_ ?_
  rotate_left
  · rintro w' ⟨s0, s1, s2⟩
    go_simp
    with_reducible rfl
  rotate_left
  · simp only [Act.put, List.setIfInBounds_toArray, List.set_cons_zero, List.set_cons_succ, i64_w, i32_w]
    rfl
  refine join_ (σ := Nat × Option Addr × Nat) 2 #[true, true, true, true, true, true, true, true, false, false] (fun s => [(32, .agg #[.int .i64 x.f0.f0, .int .i64 x.f0.f1, .int .i64 x.f0.f2, .bool x.f0.f3, .int .i64 x.f1.f0, .int .i64 x.f1.f1, .int .i64 x.f1.f2, .int .i64 x.f2, .int .i64 x.f3, .int .u32 x.f4, .int .i64 x.f5]), (33, .tuple #[.agg #[.slice s.2.1 r.1.length s.2.2, .int .i64 r.2.1], errW r.2.2]), (29, .tuple #[.agg #[.slice s.2.1 r.1.length s.2.2, .int .i64 r.2.1], errW r.2.2]), (34, .agg #[.slice s.2.1 r.1.length s.2.2, .int .i64 r.2.1]), (35, errW r.2.2), (8, .pointer (some ⟨s.1, 0, none⟩))]) (fun s w' => Below W2.heap.size W2 w' ∧ w'.heap[s.1]? = some (.cells #[.slice none 0 0, .int .i64 0] 70 (0, 0)) ∧ W2.heap.size ≤ s.1 ∧ Kd.R k34 34 w' W2.heap.size (fun _ => True) (.slice s.2.1 r.1.length s.2.2) r.1) ?_ ?_
  rotate_left
  · intro hCont
    refine two_ (i := 2) (j := 7) (Ni := some 32) (Nj := some 8) #[true, true, true, false, false, false, false, false, false, false] #[true, true, false, false, false, false, false, true, false, false] rfl rfl rfl rfl (by kernel_rfl) (by decide) (by decide) (fun K hK => ?_) (fun K hK => ?_)
    · skip
      refine goes_ Try.func12 (by kernel_rfl) rfl #[.agg #[.int .i64 x.f0.f0, .int .i64 x.f0.f1, .int .i64 x.f0.f2, .bool x.f0.f3, .int .i64 x.f1.f0, .int .i64 x.f1.f1, .int .i64 x.f1.f2, .int .i64 x.f2, .int .i64 x.f3, .int .u32 x.f4, .int .i64 x.f5]] (by rfl) rfl rfl (by simp only [List.map_toArray, List.map_cons, List.map_nil]; rfl) ?_
      with_reducible refine (p13x x _).mono ?_
      rintro e w7 ⟨rfl, hb⟩
      refine ⟨_, rfl, ?_⟩
      refine hK.out _ _ ⟨below_step hHeld.1 hb, ck2 (blk_below BZ2.out (below_step hHeld.1 hb)), ck11 (blk_below BY2.out (below_step hHeld.1 hb))⟩ (fun hHeld => ?_)
      clear hK K
      refine norm_ (a' := ?_) ?_ ?_
      rotate_left
      · show Act.put _ (some 32) _ = _
        simp only [Act.put, List.setIfInBounds_toArray, List.set_cons_zero, List.set_cons_succ, i64_w, i32_w]
        rfl
      refine two_ (i := 3) (j := 7) (Ni := some 33) (Nj := some 8) #[true, true, true, true, false, false, false, false, false, false] #[true, true, true, false, false, false, false, true, false, false] rfl rfl rfl rfl (by kernel_rfl) (by decide) (by decide) (fun K hK => ?_) (fun K hK => ?_)
      · skip
        refine goes_ Try.func37 (by kernel_rfl) rfl #[.agg #[.slice A2 l.length c2, .int .i64 p], .agg #[.int .i64 x.f0.f0, .int .i64 x.f0.f1, .int .i64 x.f0.f2, .bool x.f0.f3, .int .i64 x.f1.f0, .int .i64 x.f1.f1, .int .i64 x.f1.f2, .int .i64 x.f2, .int .i64 x.f3, .int .u32 x.f4, .int .i64 x.f5]] (by rfl) rfl rfl (by simp only [List.map_toArray, List.map_cons, List.map_nil]; rfl) ?_
        with_reducible refine (HPu.out _ (Kd.C_below HP3.out hHeld.1)).mono ?_
        rintro e w8 ⟨v3, rfl, hR, hb⟩
        obtain ⟨A3, c3, rfl⟩ := Kd.R_slice hR
        have hR2 := Kd.R_lower hR (below_size hHeld.1)
        refine ⟨_, rfl, ?_⟩
        refine hK.out _ _ ⟨below_step hHeld.1 hb, ck2 (blk_below BZ2.out (below_step hHeld.1 hb)), ck11 (blk_below BY2.out (below_step hHeld.1 hb))⟩ (fun hHeld => ?_)
        clear hK K
        refine norm_ (a' := ?_) ?_ ?_
        rotate_left
        · show Act.put _ (some 33) _ = _
          simp only [Act.put, List.setIfInBounds_toArray, List.set_cons_zero, List.set_cons_succ, i64_w, i32_w]
          rfl
        refine pure_ (i := 4) (N := some 29) (v := ?_) (a' := ?_) #[true, true, true, true, true, false, false, false, false, false] rfl rfl (by kernel_rfl) (fun _ _ _ h => h) (Or.inl ⟨by rfl, ?_⟩) ?_ ?_
        rotate_left
        · intro w'
          go_simp
          with_reducible rfl
        rotate_left
        · simp only [Act.put, List.setIfInBounds_toArray, List.set_cons_zero, List.set_cons_succ, i64_w, i32_w]
          rfl
        refine pure_ (i := 5) (N := some 34) (v := ?_) (a' := ?_) #[true, true, true, true, true, true, false, false, false, false] rfl rfl (by kernel_rfl) (fun _ _ _ h => h) (Or.inl ⟨by rfl, ?_⟩) ?_ ?_
        rotate_left
        · intro w'
          go_simp
          with_reducible rfl
        rotate_left
        · simp only [Act.put, List.setIfInBounds_toArray, List.set_cons_zero, List.set_cons_succ, i64_w, i32_w]
          rfl
        refine pure_ (i := 6) (N := some 35) (v := ?_) (a' := ?_) #[true, true, true, true, true, true, true, false, false, false] rfl rfl (by kernel_rfl) (fun _ _ _ h => h) (Or.inl ⟨by rfl, ?_⟩) ?_ ?_
        rotate_left
        · intro w'
          go_simp
          with_reducible rfl
        rotate_left
        · simp only [Act.put, List.setIfInBounds_toArray, List.set_cons_zero, List.set_cons_succ, i64_w, i32_w]
          rfl
        refine one_ (i := 7) (N := some 8) #[true, true, true, true, true, true, true, true, false, false] rfl rfl (by kernel_rfl) (by decide) (fun K hK => ?_)
        refine value_ (w1 := ?_) (v := ?_) (by rfl) rfl ?_ ?_
        rotate_left 2
        · go_simp
          constructor
          · rfl
          · rfl
        have hk := blk_new w8 (.cells #[.slice none 0 0, .int .i64 0] 70)
        have hkg := below_size hHeld.1
        have hR2 := Kd.R_below hR2 (b1 (Below.refl _ _) (.cells #[.slice none 0 0, .int .i64 0] 70))
        refine hK.out _ _ ⟨b1 hHeld.1 (.cells #[.slice none 0 0, .int .i64 0] 70), ck2 (blk_below BZ2.out (b1 hHeld.1 (.cells #[.slice none 0 0, .int .i64 0] 70))), ck11 (blk_below BY2.out (b1 hHeld.1 (.cells #[.slice none 0 0, .int .i64 0] 70)))⟩ (fun hHeld => ?_)
        clear hK K
        refine norm_ (a' := ?_) ?_ ?_
        rotate_left
        · show Act.put _ (some 8) _ = _
          simp only [Act.put, List.setIfInBounds_toArray, List.set_cons_zero, List.set_cons_succ, i64_w, i32_w]
          rfl
        exact norm_ (by simp only [putAll, Act.put, List.setIfInBounds_toArray, List.set_cons_zero, List.set_cons_succ]) (hCont (w8.heap.size, A3, c3) _ ⟨hHeld.1, hk, hkg, hR2⟩)
      · skip
        refine value_ (w1 := ?_) (v := ?_) (by rfl) rfl ?_ ?_
        rotate_left 2
        · go_simp
          constructor
          · rfl
          · rfl
        have hk := blk_new w7 (.cells #[.slice none 0 0, .int .i64 0] 70)
        have hkg := below_size hHeld.1
        refine hK.out _ _ ⟨b1 hHeld.1 (.cells #[.slice none 0 0, .int .i64 0] 70), ck2 (blk_below BZ2.out (b1 hHeld.1 (.cells #[.slice none 0 0, .int .i64 0] 70))), ck11 (blk_below BY2.out (b1 hHeld.1 (.cells #[.slice none 0 0, .int .i64 0] 70)))⟩ (fun hHeld => ?_)
        clear hK K
        refine norm_ (a' := ?_) ?_ ?_
        rotate_left
        · show Act.put _ (some 8) _ = _
          simp only [Act.put, List.setIfInBounds_toArray, List.set_cons_zero, List.set_cons_succ, i64_w, i32_w]
          rfl
        refine one_ (i := 3) (N := some 33) #[true, true, true, true, false, false, false, true, false, false] rfl rfl (by kernel_rfl) (by decide) (fun K hK => ?_)
        refine goes_ Try.func37 (by kernel_rfl) rfl #[.agg #[.slice A2 l.length c2, .int .i64 p], .agg #[.int .i64 x.f0.f0, .int .i64 x.f0.f1, .int .i64 x.f0.f2, .bool x.f0.f3, .int .i64 x.f1.f0, .int .i64 x.f1.f1, .int .i64 x.f1.f2, .int .i64 x.f2, .int .i64 x.f3, .int .u32 x.f4, .int .i64 x.f5]] (by rfl) rfl rfl (by simp only [List.map_toArray, List.map_cons, List.map_nil]; rfl) ?_
        with_reducible refine (HPu.out _ (Kd.C_below HP3.out hHeld.1)).mono ?_
        rintro e w8 ⟨v3, rfl, hR, hb⟩
        obtain ⟨A3, c3, rfl⟩ := Kd.R_slice hR
        have hR2 := Kd.R_lower hR (below_size hHeld.1)
        have hk := blk_below hk hb
        refine ⟨_, rfl, ?_⟩
        refine hK.out _ _ ⟨below_step hHeld.1 hb, ck2 (blk_below BZ2.out (below_step hHeld.1 hb)), ck11 (blk_below BY2.out (below_step hHeld.1 hb))⟩ (fun hHeld => ?_)
        clear hK K
        refine norm_ (a' := ?_) ?_ ?_
        rotate_left
        · show Act.put _ (some 33) _ = _
          simp only [Act.put, List.setIfInBounds_toArray, List.set_cons_zero, List.set_cons_succ, i64_w, i32_w]
          rfl
        refine pure_ (i := 4) (N := some 29) (v := ?_) (a' := ?_) #[true, true, true, true, true, false, false, true, false, false] rfl rfl (by kernel_rfl) (fun _ _ _ h => h) (Or.inl ⟨by rfl, ?_⟩) ?_ ?_
        rotate_left
        · intro w'
          go_simp
          with_reducible rfl
        rotate_left
        · simp only [Act.put, List.setIfInBounds_toArray, List.set_cons_zero, List.set_cons_succ, i64_w, i32_w]
          rfl
        refine pure_ (i := 5) (N := some 34) (v := ?_) (a' := ?_) #[true, true, true, true, true, true, false, true, false, false] rfl rfl (by kernel_rfl) (fun _ _ _ h => h) (Or.inl ⟨by rfl, ?_⟩) ?_ ?_
        rotate_left
        · intro w'
          go_simp
          with_reducible rfl
        rotate_left
        · simp only [Act.put, List.setIfInBounds_toArray, List.set_cons_zero, List.set_cons_succ, i64_w, i32_w]
          rfl
        refine pure_ (i := 6) (N := some 35) (v := ?_) (a' := ?_) #[true, true, true, true, true, true, true, true, false, false] rfl rfl (by kernel_rfl) (fun _ _ _ h => h) (Or.inl ⟨by rfl, ?_⟩) ?_ ?_
        rotate_left
        · intro w'
          go_simp
          with_reducible rfl
        rotate_left
        · simp only [Act.put, List.setIfInBounds_toArray, List.set_cons_zero, List.set_cons_succ, i64_w, i32_w]
          rfl
        exact norm_ (by simp only [putAll, Act.put, List.setIfInBounds_toArray, List.set_cons_zero, List.set_cons_succ]) (hCont (w7.heap.size, A3, c3) _ ⟨hHeld.1, hk, hkg, hR2⟩)
    · skip
      refine value_ (w1 := ?_) (v := ?_) (by rfl) rfl ?_ ?_
      rotate_left 2
      · go_simp
        constructor
        · rfl
        · rfl
      have hk := blk_new W3 (.cells #[.slice none 0 0, .int .i64 0] 70)
      have hkg := below_size hHeld.1
      refine hK.out _ _ ⟨b1 hHeld.1 (.cells #[.slice none 0 0, .int .i64 0] 70), ck2 (blk_below BZ2.out (b1 hHeld.1 (.cells #[.slice none 0 0, .int .i64 0] 70))), ck11 (blk_below BY2.out (b1 hHeld.1 (.cells #[.slice none 0 0, .int .i64 0] 70)))⟩ (fun hHeld => ?_)
      clear hK K
      refine norm_ (a' := ?_) ?_ ?_
      rotate_left
      · show Act.put _ (some 8) _ = _
        simp only [Act.put, List.setIfInBounds_toArray, List.set_cons_zero, List.set_cons_succ, i64_w, i32_w]
        rfl
      refine one_ (i := 2) (N := some 32) #[true, true, true, false, false, false, false, true, false, false] rfl rfl (by kernel_rfl) (by decide) (fun K hK => ?_)
      refine goes_ Try.func12 (by kernel_rfl) rfl #[.agg #[.int .i64 x.f0.f0, .int .i64 x.f0.f1, .int .i64 x.f0.f2, .bool x.f0.f3, .int .i64 x.f1.f0, .int .i64 x.f1.f1, .int .i64 x.f1.f2, .int .i64 x.f2, .int .i64 x.f3, .int .u32 x.f4, .int .i64 x.f5]] (by rfl) rfl rfl (by simp only [List.map_toArray, List.map_cons, List.map_nil]; rfl) ?_
      with_reducible refine (p13x x _).mono ?_
      rintro e w7 ⟨rfl, hb⟩
      refine ⟨_, rfl, ?_⟩
      have hk := blk_below hk hb
      refine hK.out _ _ ⟨below_step hHeld.1 hb, ck2 (blk_below BZ2.out (below_step hHeld.1 hb)), ck11 (blk_below BY2.out (below_step hHeld.1 hb))⟩ (fun hHeld => ?_)
      clear hK K
      refine norm_ (a' := ?_) ?_ ?_
      rotate_left
      · show Act.put _ (some 32) _ = _
        simp only [Act.put, List.setIfInBounds_toArray, List.set_cons_zero, List.set_cons_succ, i64_w, i32_w]
        rfl
      refine one_ (i := 3) (N := some 33) #[true, true, true, true, false, false, false, true, false, false] rfl rfl (by kernel_rfl) (by decide) (fun K hK => ?_)
      refine goes_ Try.func37 (by kernel_rfl) rfl #[.agg #[.slice A2 l.length c2, .int .i64 p], .agg #[.int .i64 x.f0.f0, .int .i64 x.f0.f1, .int .i64 x.f0.f2, .bool x.f0.f3, .int .i64 x.f1.f0, .int .i64 x.f1.f1, .int .i64 x.f1.f2, .int .i64 x.f2, .int .i64 x.f3, .int .u32 x.f4, .int .i64 x.f5]] (by rfl) rfl rfl (by simp only [List.map_toArray, List.map_cons, List.map_nil]; rfl) ?_
      with_reducible refine (HPu.out _ (Kd.C_below HP3.out hHeld.1)).mono ?_
      rintro e w8 ⟨v3, rfl, hR, hb⟩
      obtain ⟨A3, c3, rfl⟩ := Kd.R_slice hR
      have hR2 := Kd.R_lower hR (below_size hHeld.1)
      have hk := blk_below hk hb
      refine ⟨_, rfl, ?_⟩
      refine hK.out _ _ ⟨below_step hHeld.1 hb, ck2 (blk_below BZ2.out (below_step hHeld.1 hb)), ck11 (blk_below BY2.out (below_step hHeld.1 hb))⟩ (fun hHeld => ?_)
      clear hK K
      refine norm_ (a' := ?_) ?_ ?_
      rotate_left
      · show Act.put _ (some 33) _ = _
        simp only [Act.put, List.setIfInBounds_toArray, List.set_cons_zero, List.set_cons_succ, i64_w, i32_w]
        rfl
      refine pure_ (i := 4) (N := some 29) (v := ?_) (a' := ?_) #[true, true, true, true, true, false, false, true, false, false] rfl rfl (by kernel_rfl) (fun _ _ _ h => h) (Or.inl ⟨by rfl, ?_⟩) ?_ ?_
      rotate_left
      · intro w'
        go_simp
        with_reducible rfl
      rotate_left
      · simp only [Act.put, List.setIfInBounds_toArray, List.set_cons_zero, List.set_cons_succ, i64_w, i32_w]
        rfl
      refine pure_ (i := 5) (N := some 34) (v := ?_) (a' := ?_) #[true, true, true, true, true, true, false, true, false, false] rfl rfl (by kernel_rfl) (fun _ _ _ h => h) (Or.inl ⟨by rfl, ?_⟩) ?_ ?_
      rotate_left
      · intro w'
        go_simp
        with_reducible rfl
      rotate_left
      · simp only [Act.put, List.setIfInBounds_toArray, List.set_cons_zero, List.set_cons_succ, i64_w, i32_w]
        rfl
      refine pure_ (i := 6) (N := some 35) (v := ?_) (a' := ?_) #[true, true, true, true, true, true, true, true, false, false] rfl rfl (by kernel_rfl) (fun _ _ _ h => h) (Or.inl ⟨by rfl, ?_⟩) ?_ ?_
      rotate_left
      · intro w'
        go_simp
        with_reducible rfl
      rotate_left
      · simp only [Act.put, List.setIfInBounds_toArray, List.set_cons_zero, List.set_cons_succ, i64_w, i32_w]
        rfl
      exact norm_ (by simp only [putAll, Act.put, List.setIfInBounds_toArray, List.set_cons_zero, List.set_cons_succ]) (hCont (W3.heap.size, A3, c3) _ ⟨hHeld.1, hk, hkg, hR2⟩)
  rintro ⟨k, A3, c3⟩ w9 ⟨hq, hk, hkg, hR⟩
  have hHeld : (Below W2.heap.size W2 w9) ∧ ((w9.cell? ⟨h, 0, none⟩ = some (.slice A2 l.length c2) ∧ w9.cell? ⟨h, 1, none⟩ = some (.int .i64 p))) ∧ ((w9.cell? ⟨g + 1, 0, none⟩ = some (.int .i64 x.f0.f0) ∧ w9.cell? ⟨g + 1, 1, none⟩ = some (.int .i64 x.f0.f1) ∧ w9.cell? ⟨g + 1, 2, none⟩ = some (.int .i64 x.f0.f2) ∧ w9.cell? ⟨g + 1, 3, none⟩ = some (.bool x.f0.f3) ∧ w9.cell? ⟨g + 1, 4, none⟩ = some (.int .i64 x.f1.f0) ∧ w9.cell? ⟨g + 1, 5, none⟩ = some (.int .i64 x.f1.f1) ∧ w9.cell? ⟨g + 1, 6, none⟩ = some (.int .i64 x.f1.f2) ∧ w9.cell? ⟨g + 1, 7, none⟩ = some (.int .i64 x.f2) ∧ w9.cell? ⟨g + 1, 8, none⟩ = some (.int .i64 x.f3) ∧ w9.cell? ⟨g + 1, 9, none⟩ = some (.int .u32 x.f4) ∧ w9.cell? ⟨g + 1, 10, none⟩ = some (.int .i64 x.f5))) := ⟨hq, ck2 (blk_below BZ2.out (hq)), ck11 (blk_below BY2.out (hq))⟩
  have hz := cc2 hk
  refine norm_ (a' := ?_) ?_ ?_
  rotate_left
  · simp only [putAll, Act.put, List.setIfInBounds_toArray, List.set_cons_zero, List.set_cons_succ]
    rfl
  refine one_ (i := 8) (N := none) #[true, true, true, true, true, true, true, true, true, false] rfl rfl (by kernel_rfl) (by decide) (fun K hK => ?_)
  refine skip_ (w1 := ?_) (by rfl) rfl ?_ ?_
  rotate_left
  · go_simp
    rfl
  refine hK.out _ _ ⟨bel2 hHeld.1 hkg, ck2 (blk_below BZ2.out (bel2 hHeld.1 hkg)), ck11 (blk_below BY2.out (bel2 hHeld.1 hkg))⟩ (fun hHeld => ?_)
  clear hK K
  refine pure_ (i := 9) (N := some 9) (v := ?_) (a' := ?_) #[true, true, true, true, true, true, true, true, true, true] rfl rfl (by kernel_rfl) (fun _ _ _ h => h) (Or.inl ⟨by rfl, ?_⟩) ?_ ?_
  rotate_left
  · intro w'
    go_simp
    with_reducible rfl
  rotate_left
  · simp only [Act.put, List.setIfInBounds_toArray, List.set_cons_zero, List.set_cons_succ, i64_w, i32_w]
    rfl
  refine done_ (by kernel_rfl) ?_
  have BC6 := Aside0.mk (put2 (v := .slice A3 r.1.length c3) (q := .int .i64 r.2.1) hk)
  have HC6 := Aside0.mk (Kd.R_reads' (rr2 (v := .slice A3 r.1.length c3) (q := .int .i64 r.2.1) hR hk)).2.2
  have HCc := Aside0.mk (Kd.R_reads' hR).2.1
  have HB6 := Aside0.mk (below_step HB2.out hHeld.1)
  have BX6 := Aside0.mk (blk_below BX2.out hHeld.1)
  have BY6 := Aside0.mk (blk_below BY2.out hHeld.1)
  have BZ6 := Aside0.mk (blk_below BZ2.out hHeld.1)
  have HX6 := Aside0.mk (Kd.C_below HP3.out hHeld.1)
  obtain ⟨w10, hw⟩ : ∃ w10, w10 = (w9.setCell ⟨k, 0, none⟩ (.slice A3 r.1.length c3)).setCell ⟨k, 1, none⟩ (.int .i64 r.2.1) := ⟨_, rfl⟩
  rw [← hw] at BC6 HC6 HB6 BX6 BY6 BZ6 HX6 ⊢
  clear hw hHeld hq hz hk hR hkg hx hy BX2 BY2 BZ2 HB2 HP3
  have hx := ck2 BX6.out
  have hy := ck11 BY6.out
  have HRp := Aside0.mk (rput2 (w := w10) (Kd.C_below HC.out HB6.out) hcc (by omega) p x r (by rw [← HL.out]; exact HR.out))
  go_wp2_with fail
  refine HRp.out.mono ?_
  rintro e w11 ⟨v4, rfl, hR, hb⟩
  obtain ⟨A4, c4, rfl⟩ := Kd.R_slice hR
  obtain ⟨M, hM⟩ : ∃ M, M = r.1.map vc := ⟨_, rfl⟩
  rw [← hM] at hR ⊢
  have HM := Aside0.mk hM
  have HMc := Aside0.mk (Kd.R_reads' hR).2.1
  have HM7 := Aside0.mk (Kd.C_alloc (Kd.R_reads' hR).2.2 (.cells #[.slice A4 M.length c4, .int .i64 r.2.1] 66))
  have HB7 := Aside0.mk (b1 (below_step HB6.out hb) (.cells #[.slice A4 M.length c4, .int .i64 r.2.1] 66))
  have BD7 := Aside0.mk (blk_new w11 (.cells #[.slice A4 M.length c4, .int .i64 r.2.1] 66))
  have BX7 := Aside0.mk (q3 (blk_below BX6.out hb) (.cells #[.slice A4 M.length c4, .int .i64 r.2.1] 66))
  have BC7 := Aside0.mk (q3 (blk_below BC6.out hb) (.cells #[.slice A4 M.length c4, .int .i64 r.2.1] 66))
  have BZ7 := Aside0.mk (q3 (blk_below BZ6.out hb) (.cells #[.slice A4 M.length c4, .int .i64 r.2.1] 66))
  have HC7 := Aside0.mk (Kd.C_alloc (Kd.C_below HC6.out hb) (.cells #[.slice A4 M.length c4, .int .i64 r.2.1] 66))
  have HX7 := Aside0.mk (Kd.C_alloc (Kd.C_below HX6.out hb) (.cells #[.slice A4 M.length c4, .int .i64 r.2.1] 66))
  obtain ⟨n, hn⟩ : ∃ n, n = newL m := ⟨_, rfl⟩
  have HNw := setnew_calls (c := d) (Kd.C_below HD.out HB7.out)
  rw [← hn] at HNw
  have HNw := Aside0.mk HNw
  have HN := Aside0.mk hn
  clear hx hy hR hb hM BX6 BY6 BC6 BZ6 HC6 HX6 HB6 hn
  go_wp2_with fail
  refine HNw.out.mono ?_
  rintro e w12 ⟨v5, rfl, hR, hb⟩
  obtain ⟨A5, c5, rfl⟩ := Kd.R_slice hR
  have HEc := Aside0.mk (Kd.R_reads' hR).2.1
  have HE8 := Aside0.mk (Kd.C_alloc (Kd.R_reads' hR).2.2 (.cells #[.slice A5 n.1.length c5, .int .i64 n.2.1] 70))
  have HB8 := Aside0.mk (b1 (below_step HB7.out hb) (.cells #[.slice A5 n.1.length c5, .int .i64 n.2.1] 70))
  have BE8 := Aside0.mk (blk_new w12 (.cells #[.slice A5 n.1.length c5, .int .i64 n.2.1] 70))
  have BD8 := Aside0.mk (q3 (blk_below BD7.out hb) (.cells #[.slice A5 n.1.length c5, .int .i64 n.2.1] 70))
  have BX8 := Aside0.mk (q3 (blk_below BX7.out hb) (.cells #[.slice A5 n.1.length c5, .int .i64 n.2.1] 70))
  have BC8 := Aside0.mk (q3 (blk_below BC7.out hb) (.cells #[.slice A5 n.1.length c5, .int .i64 n.2.1] 70))
  have BZ8 := Aside0.mk (q3 (blk_below BZ7.out hb) (.cells #[.slice A5 n.1.length c5, .int .i64 n.2.1] 70))
  have HC8 := Aside0.mk (Kd.C_alloc (Kd.C_below HC7.out hb) (.cells #[.slice A5 n.1.length c5, .int .i64 n.2.1] 70))
  have HX8 := Aside0.mk (Kd.C_alloc (Kd.C_below HX7.out hb) (.cells #[.slice A5 n.1.length c5, .int .i64 n.2.1] 70))
  have HM8 := Aside0.mk (Kd.C_alloc (Kd.C_below HM7.out hb) (.cells #[.slice A5 n.1.length c5, .int .i64 n.2.1] 70))
  have HRn := rnew_calls (c := d) (Kd.C_below HD.out HB8.out) hdd (by omega)
  rw [← HN.out] at HRn
  have HRn := Aside0.mk HRn
  clear hR hb BX7 BC7 BZ7 BD7 HC7 HX7 HM7 HB7
  go_wp2_with fail
  refine HRn.out.mono ?_
  rintro e w13 ⟨v6, rfl, hR, hb⟩
  obtain ⟨A6, c6, rfl⟩ := Kd.R_slice hR
  obtain ⟨F, hF⟩ : ∃ F, F = n.1.map vc := ⟨_, rfl⟩
  rw [← hF] at hR ⊢
  have HF := Aside0.mk hF
  have HFc := Aside0.mk (Kd.R_reads' hR).2.1
  have HF9 := Aside0.mk (Kd.C_alloc (Kd.R_reads' hR).2.2 (.cells #[.slice A6 F.length c6, .int .i64 n.2.1] 66))
  have HB9 := Aside0.mk (b1 (below_step HB8.out hb) (.cells #[.slice A6 F.length c6, .int .i64 n.2.1] 66))
  have BF9 := Aside0.mk (blk_new w13 (.cells #[.slice A6 F.length c6, .int .i64 n.2.1] 66))
  have BE9 := Aside0.mk (q3 (blk_below BE8.out hb) (.cells #[.slice A6 F.length c6, .int .i64 n.2.1] 66))
  have BD9 := Aside0.mk (q3 (blk_below BD8.out hb) (.cells #[.slice A6 F.length c6, .int .i64 n.2.1] 66))
  have BX9 := Aside0.mk (q3 (blk_below BX8.out hb) (.cells #[.slice A6 F.length c6, .int .i64 n.2.1] 66))
  have BC9 := Aside0.mk (q3 (blk_below BC8.out hb) (.cells #[.slice A6 F.length c6, .int .i64 n.2.1] 66))
  have BZ9 := Aside0.mk (q3 (blk_below BZ8.out hb) (.cells #[.slice A6 F.length c6, .int .i64 n.2.1] 66))
  have HC9 := Aside0.mk (Kd.C_alloc (Kd.C_below HC8.out hb) (.cells #[.slice A6 F.length c6, .int .i64 n.2.1] 66))
  have HX9 := Aside0.mk (Kd.C_alloc (Kd.C_below HX8.out hb) (.cells #[.slice A6 F.length c6, .int .i64 n.2.1] 66))
  have HM9 := Aside0.mk (Kd.C_alloc (Kd.C_below HM8.out hb) (.cells #[.slice A6 F.length c6, .int .i64 n.2.1] 66))
  have HE9 := Aside0.mk (Kd.C_alloc (Kd.C_below HE8.out hb) (.cells #[.slice A6 F.length c6, .int .i64 n.2.1] 66))
  clear hR hb BX8 BC8 BZ8 BD8 BE8 HC8 HX8 HM8 HE8 HB8 hF
  go_wp2_with fail
  obtain ⟨W9, hW9⟩ : ∃ W9, W9 = w13.alloc (.cells #[.slice A6 F.length c6, .int .i64 n.2.1] 66) := ⟨_, rfl⟩
  rw [← hW9] at HF9 HB9 BF9 BE9 BD9 BX9 BC9 BZ9 HC9 HX9 HM9 HE9 ⊢
  clear hW9
  have HrL := Aside0.mk (show r.1.length ≤ 1000 by rw [HR.out]; exact Nat.le_trans (putL_len _ _ _) (by rw [HLl.out]; omega))
  have HrE := Aside0.mk (show r.2.2 ≠ some 0 by rw [HR.out]; exact putL_er _ _ _)
  have HnL := Aside0.mk (show n.1.length ≤ 1000 by rw [HN.out]; exact Nat.le_trans (newL_len _) (by omega))
  have HnE := Aside0.mk (show n.2.2 ≠ some 0 by rw [HN.out]; exact newL_er _)
  have HML := Aside0.mk (show M.length ≤ 1000 by rw [HM.out, List.length_map]; exact HrL.out)
  have HlL := Aside0.mk (show l.length ≤ 1000 by omega)
  have HbT := Aside0.mk (show true = true ↔ (l = l ∧ p = p) from ⟨fun _ => ⟨rfl, rfl⟩, fun _ => rfl⟩)
  obtain ⟨bq, hbq⟩ : ∃ b : Bool, b = true ↔ (r.1 = L ∧ r.2.1 = p) := by classical exact ⟨decide (r.1 = L ∧ r.2.1 = p), decide_eq_true_iff⟩
  have HbS := Aside0.mk (show bq = true ↔ (M = l ∧ r.2.1 = p) from hbq.trans (by
    rw [HM.out]
    constructor
    · rintro ⟨h1, h2⟩; exact ⟨by rw [h1, HL.out, map_vc], h2⟩
    · rintro ⟨h1, h2⟩; exact ⟨map_vc_inj (by rw [h1, HL.out, map_vc]), h2⟩))
  have HDoc := Aside0.mk (show ∀ W, Kd.C k34 W A2 l.length L → Calls Try.prog 43 #[.agg #[.slice A2 l.length c2, .int .i64 p]] W (fun e w' => ∃ A7 c7, e = .returned (.agg #[.slice A7 l.length c7, .int .i64 p]) ∧ l.length ≤ c7 ∧ Kd.C k29 w' A7 l.length l ∧ Below W.heap.size W w') from fun W hC => by
    have h := document_calls (w := W) (A := A2) (c := c2) (l := L) (by rw [HLl.out]; exact hC) (by rw [HLl.out]; exact HP1.out) (by rw [HLl.out]; omega) p
    rw [HLl.out] at h
    refine h.mono ?_
    rintro e w' ⟨v, rfl, hR, hb⟩
    have e1 : L.map vc = l := by rw [HL.out, map_vc]
    rw [e1] at hR
    obtain ⟨A7, c7, rfl⟩ := Kd.R_slice hR
    exact ⟨A7, c7, rfl, (Kd.R_reads' hR).2.1, (Kd.R_reads' hR).2.2, hb⟩)
  have HPs := Aside0.mk (show ∀ W, Kd.C k34 W A3 r.1.length r.1 → Kd.C k34 W A2 l.length L → Calls Try.prog 44 #[.agg #[.slice A3 r.1.length c3, .int .i64 r.2.1], .agg #[.slice A2 l.length c2, .int .i64 p]] W (fun e w' => e = .returned (.bool bq) ∧ Below W.heap.size W w') from fun W h1 h2 => by
    have h := psame_calls (w := W) (A := A3) (B := A2) (c := c3) (d := c2) (l := r.1) (m := L) h1 HCc.out HrL.out (by rw [HLl.out]; exact h2) (by rw [HLl.out]; exact HP1.out) r.2.1 p bq hbq
    rw [HLl.out] at h
    exact h)
  clear hbq
  -- REGION 10 (printed)
  refine start_ (n := 28) (S := fun w' => Below W9.heap.size W9 w' ∧ (w'.cell? ⟨g, 0, none⟩ = some (.slice A l.length c) ∧ w'.cell? ⟨g, 1, none⟩ = some (.int .i64 p)) ∧ (w'.cell? ⟨h, 0, none⟩ = some (.slice A2 l.length c2) ∧ w'.cell? ⟨h, 1, none⟩ = some (.int .i64 p)) ∧ (w'.cell? ⟨k, 0, none⟩ = some (.slice A3 r.1.length c3) ∧ w'.cell? ⟨k, 1, none⟩ = some (.int .i64 r.2.1)) ∧ (w'.cell? ⟨w11.heap.size, 0, none⟩ = some (.slice A4 M.length c4) ∧ w'.cell? ⟨w11.heap.size, 1, none⟩ = some (.int .i64 r.2.1)) ∧ (w'.cell? ⟨w12.heap.size, 0, none⟩ = some (.slice A5 n.1.length c5) ∧ w'.cell? ⟨w12.heap.size, 1, none⟩ = some (.int .i64 n.2.1)) ∧ (w'.cell? ⟨w13.heap.size, 0, none⟩ = some (.slice A6 F.length c6) ∧ w'.cell? ⟨w13.heap.size, 1, none⟩ = some (.int .i64 n.2.1))) (ds := []) #[false, false, false, false, false, false, false, false, false, false, false, false, false, false, false, false, false, false, false, false, false, false, false, false, false, false, false, false] (by kernel_rfl) rfl rfl ⟨below_drew1 (Below.refl _ _), ck2 (blk_below BX9.out (below_drew1 (Below.refl _ _))), ck2 (blk_below BZ9.out (below_drew1 (Below.refl _ _))), ck2 (blk_below BC9.out (below_drew1 (Below.refl _ _))), ck2 (blk_below BD9.out (below_drew1 (Below.refl _ _))), ck2 (blk_below BE9.out (below_drew1 (Below.refl _ _))), ck2 (blk_below BF9.out (below_drew1 (Below.refl _ _)))⟩ (fun hHeld => ?_)
  refine pure_ (i := 1) (N := some 53) (v := ?_) (a' := ?_) #[false, true, false, false, false, false, false, false, false, false, false, false, false, false, false, false, false, false, false, false, false, false, false, false, false, false, false, false] rfl rfl (by kernel_rfl) (fun _ _ _ h => h) (Or.inl ⟨by rfl, ?_⟩) ?_ ?_
  rotate_left
  · intro w'
    go_simp
    with_reducible rfl
  rotate_left
  · simp only [Act.put, List.setIfInBounds_toArray, List.set_cons_zero, List.set_cons_succ, i64_w, i32_w]
    rfl
  refine pure_ (i := 3) (N := some 55) (v := ?_) (a' := ?_) #[false, true, false, true, false, false, false, false, false, false, false, false, false, false, false, false, false, false, false, false, false, false, false, false, false, false, false, false] rfl rfl (by kernel_rfl) (fun _ _ _ h => h) (Or.inl ⟨by rfl, ?_⟩) ?_ ?_
  rotate_left
  · intro w'
    go_simp
    with_reducible rfl
  rotate_left
  · simp only [Act.put, List.setIfInBounds_toArray, List.set_cons_zero, List.set_cons_succ, i64_w, i32_w]
    rfl
  refine take_ (i := 0) (N := some 52) (v := ?_) (a' := ?_) #[true, true, false, true, false, false, false, false, false, false, false, false, false, false, false, false, false, false, false, false, false, false, false, false, false, false, false, false] rfl rfl (by kernel_rfl) (fun _ _ _ h => h) (Or.inl ⟨by rfl, ?_⟩) hHeld ?_ ?_
  rotate_left
  · rintro w' ⟨s0, s1, s2, s3, s4, s5, s6⟩
    go_simp
    with_reducible rfl
  rotate_left
  · simp only [Act.put, List.setIfInBounds_toArray, List.set_cons_zero, List.set_cons_succ, i64_w, i32_w]
    rfl
  refine take_ (i := 2) (N := some 54) (v := ?_) (a' := ?_) #[true, true, true, true, false, false, false, false, false, false, false, false, false, false, false, false, false, false, false, false, false, false, false, false, false, false, false, false] rfl rfl (by kernel_rfl) (fun _ _ _ h => h) (Or.inl ⟨by rfl, ?_⟩) hHeld ?_ ?_
  rotate_left
  · rintro w' ⟨s0, s1, s2, s3, s4, s5, s6⟩
    go_simp
    with_reducible rfl
  rotate_left
  · simp only [Act.put, List.setIfInBounds_toArray, List.set_cons_zero, List.set_cons_succ, i64_w, i32_w]
    rfl
  refine one_ (i := 4) (N := some 56) #[true, true, true, true, true, false, false, false, false, false, false, false, false, false, false, false, false, false, false, false, false, false, false, false, false, false, false, false] rfl rfl (by kernel_rfl) (by decide) (fun K hK => ?_)
  refine goes_ Try.func41 (by kernel_rfl) rfl #[.agg #[.slice A3 r.1.length c3, .int .i64 r.2.1], errW r.2.2, .agg #[.slice A4 M.length c4, .int .i64 r.2.1], .int .i64 (erN r.2.2)] (by rfl) rfl rfl (by simp only [List.map_toArray, List.map_cons, List.map_nil]; rfl) ?_
  with_reducible refine (told_calls (Kd.C_below HC9.out hHeld.1) HCc.out HrL.out (Kd.C_below HM9.out hHeld.1) HMc.out HM.out r.2.1 r.2.2 HrE.out).mono ?_
  rintro e w14 ⟨rfl, hb⟩
  refine ⟨_, rfl, ?_⟩
  refine hK.out _ _ ⟨below_step hHeld.1 hb, ck2 (blk_below BX9.out (below_step hHeld.1 hb)), ck2 (blk_below BZ9.out (below_step hHeld.1 hb)), ck2 (blk_below BC9.out (below_step hHeld.1 hb)), ck2 (blk_below BD9.out (below_step hHeld.1 hb)), ck2 (blk_below BE9.out (below_step hHeld.1 hb)), ck2 (blk_below BF9.out (below_step hHeld.1 hb))⟩ (fun hHeld => ?_)
  clear hK K
  refine norm_ (a' := ?_) ?_ ?_
  rotate_left
  · show Act.put _ (some 56) _ = _
    simp only [Act.put, List.setIfInBounds_toArray, List.set_cons_zero, List.set_cons_succ, i64_w, i32_w]
    rfl
  refine pure_ (i := 5) (N := some 57) (v := ?_) (a' := ?_) #[true, true, true, true, true, true, false, false, false, false, false, false, false, false, false, false, false, false, false, false, false, false, false, false, false, false, false, false] rfl rfl (by kernel_rfl) (fun _ _ _ h => h) (Or.inl ⟨by rfl, ?_⟩) ?_ ?_
  rotate_left
  · intro w'
    go_simp
    with_reducible rfl
  rotate_left
  · simp only [Act.put, List.setIfInBounds_toArray, List.set_cons_zero, List.set_cons_succ, i64_w, i32_w]
    rfl
  refine pure_ (i := 7) (N := some 59) (v := ?_) (a' := ?_) #[true, true, true, true, true, true, false, true, false, false, false, false, false, false, false, false, false, false, false, false, false, false, false, false, false, false, false, false] rfl rfl (by kernel_rfl) (fun _ _ _ h => h) (Or.inl ⟨by rfl, ?_⟩) ?_ ?_
  rotate_left
  · intro w'
    go_simp
    with_reducible rfl
  rotate_left
  · simp only [Act.put, List.setIfInBounds_toArray, List.set_cons_zero, List.set_cons_succ, i64_w, i32_w]
    rfl
  refine pure_ (i := 9) (N := some 61) (v := ?_) (a' := ?_) #[true, true, true, true, true, true, false, true, false, true, false, false, false, false, false, false, false, false, false, false, false, false, false, false, false, false, false, false] rfl rfl (by kernel_rfl) (fun _ _ _ h => h) (Or.inl ⟨by rfl, ?_⟩) ?_ ?_
  rotate_left
  · intro w'
    go_simp
    with_reducible rfl
  rotate_left
  · simp only [Act.put, List.setIfInBounds_toArray, List.set_cons_zero, List.set_cons_succ, i64_w, i32_w]
    rfl
  refine take_ (i := 6) (N := some 58) (v := ?_) (a' := ?_) #[true, true, true, true, true, true, true, true, false, true, false, false, false, false, false, false, false, false, false, false, false, false, false, false, false, false, false, false] rfl rfl (by kernel_rfl) (fun _ _ _ h => h) (Or.inl ⟨by rfl, ?_⟩) hHeld ?_ ?_
  rotate_left
  · rintro w' ⟨s0, s1, s2, s3, s4, s5, s6⟩
    go_simp
    with_reducible rfl
  rotate_left
  · simp only [Act.put, List.setIfInBounds_toArray, List.set_cons_zero, List.set_cons_succ, i64_w, i32_w]
    rfl
  refine take_ (i := 8) (N := some 60) (v := ?_) (a' := ?_) #[true, true, true, true, true, true, true, true, true, true, false, false, false, false, false, false, false, false, false, false, false, false, false, false, false, false, false, false] rfl rfl (by kernel_rfl) (fun _ _ _ h => h) (Or.inl ⟨by rfl, ?_⟩) hHeld ?_ ?_
  rotate_left
  · rintro w' ⟨s0, s1, s2, s3, s4, s5, s6⟩
    go_simp
    with_reducible rfl
  rotate_left
  · simp only [Act.put, List.setIfInBounds_toArray, List.set_cons_zero, List.set_cons_succ, i64_w, i32_w]
    rfl
  refine one_ (i := 10) (N := some 62) #[true, true, true, true, true, true, true, true, true, true, true, false, false, false, false, false, false, false, false, false, false, false, false, false, false, false, false, false] rfl rfl (by kernel_rfl) (by decide) (fun K hK => ?_)
  refine goes_ Try.func41 (by kernel_rfl) rfl #[.agg #[.slice A5 n.1.length c5, .int .i64 n.2.1], errW n.2.2, .agg #[.slice A6 F.length c6, .int .i64 n.2.1], .int .i64 (erN n.2.2)] (by rfl) rfl rfl (by simp only [List.map_toArray, List.map_cons, List.map_nil]; rfl) ?_
  with_reducible refine (told_calls (Kd.C_below HE9.out hHeld.1) HEc.out HnL.out (Kd.C_below HF9.out hHeld.1) HFc.out HF.out n.2.1 n.2.2 HnE.out).mono ?_
  rintro e w15 ⟨rfl, hb⟩
  refine ⟨_, rfl, ?_⟩
  refine hK.out _ _ ⟨below_step hHeld.1 hb, ck2 (blk_below BX9.out (below_step hHeld.1 hb)), ck2 (blk_below BZ9.out (below_step hHeld.1 hb)), ck2 (blk_below BC9.out (below_step hHeld.1 hb)), ck2 (blk_below BD9.out (below_step hHeld.1 hb)), ck2 (blk_below BE9.out (below_step hHeld.1 hb)), ck2 (blk_below BF9.out (below_step hHeld.1 hb))⟩ (fun hHeld => ?_)
  clear hK K
  refine norm_ (a' := ?_) ?_ ?_
  rotate_left
  · show Act.put _ (some 62) _ = _
    simp only [Act.put, List.setIfInBounds_toArray, List.set_cons_zero, List.set_cons_succ, i64_w, i32_w]
    rfl
  refine pure_ (i := 11) (N := some 63) (v := ?_) (a' := ?_) #[true, true, true, true, true, true, true, true, true, true, true, true, false, false, false, false, false, false, false, false, false, false, false, false, false, false, false, false] rfl rfl (by kernel_rfl) (fun _ _ _ h => h) (Or.inl ⟨by rfl, ?_⟩) ?_ ?_
  rotate_left
  · intro w'
    go_simp
    with_reducible rfl
  rotate_left
  · simp only [Act.put, List.setIfInBounds_toArray, List.set_cons_zero, List.set_cons_succ, i64_w, i32_w]
    rfl
  refine pure_ (i := 12) (N := some 64) (v := ?_) (a' := ?_) #[true, true, true, true, true, true, true, true, true, true, true, true, true, false, false, false, false, false, false, false, false, false, false, false, false, false, false, false] rfl rfl (by kernel_rfl) (fun _ _ _ h => h) (Or.inl ⟨by rfl, ?_⟩) ?_ ?_
  rotate_left
  · intro w'
    go_simp
    with_reducible rfl
  rotate_left
  · simp only [Act.put, List.setIfInBounds_toArray, List.set_cons_zero, List.set_cons_succ, i64_w, i32_w]
    rfl
  refine take_ (i := 13) (N := some 65) (v := ?_) (a' := ?_) #[true, true, true, true, true, true, true, true, true, true, true, true, true, true, false, false, false, false, false, false, false, false, false, false, false, false, false, false] rfl rfl (by kernel_rfl) (fun _ _ _ h => h) (Or.inl ⟨by rfl, ?_⟩) hHeld ?_ ?_
  rotate_left
  · rintro w' ⟨s0, s1, s2, s3, s4, s5, s6⟩
    go_simp
    with_reducible rfl
  rotate_left
  · simp only [Act.put, List.setIfInBounds_toArray, List.set_cons_zero, List.set_cons_succ, i64_w, i32_w]
    rfl
  refine take_ (i := 15) (N := some 67) (v := ?_) (a' := ?_) #[true, true, true, true, true, true, true, true, true, true, true, true, true, true, false, true, false, false, false, false, false, false, false, false, false, false, false, false] rfl rfl (by kernel_rfl) (fun _ _ _ h => h) (Or.inl ⟨by rfl, ?_⟩) hHeld ?_ ?_
  rotate_left
  · rintro w' ⟨s0, s1, s2, s3, s4, s5, s6⟩
    go_simp
    with_reducible rfl
  rotate_left
  · simp only [Act.put, List.setIfInBounds_toArray, List.set_cons_zero, List.set_cons_succ, i64_w, i32_w]
    rfl
  refine one_ (i := 14) (N := some 66) #[true, true, true, true, true, true, true, true, true, true, true, true, true, true, true, true, false, false, false, false, false, false, false, false, false, false, false, false] rfl rfl (by kernel_rfl) (by decide) (fun K hK => ?_)
  refine goes_ Try.func43 (by kernel_rfl) rfl #[.agg #[.slice A2 l.length c2, .int .i64 p]] (by rfl) rfl rfl (by simp only [List.map_toArray, List.map_cons, List.map_nil]; rfl) ?_
  with_reducible refine (HDoc.out _ (Kd.C_below HX9.out hHeld.1)).mono ?_
  rintro e w16 ⟨A7, c7, rfl, hc7, hC7, hb⟩
  refine ⟨_, rfl, ?_⟩
  refine hK.out _ _ ⟨below_step hHeld.1 hb, ck2 (blk_below BX9.out (below_step hHeld.1 hb)), ck2 (blk_below BZ9.out (below_step hHeld.1 hb)), ck2 (blk_below BC9.out (below_step hHeld.1 hb)), ck2 (blk_below BD9.out (below_step hHeld.1 hb)), ck2 (blk_below BE9.out (below_step hHeld.1 hb)), ck2 (blk_below BF9.out (below_step hHeld.1 hb))⟩ (fun hHeld => ?_)
  clear hK K
  refine norm_ (a' := ?_) ?_ ?_
  rotate_left
  · show Act.put _ (some 66) _ = _
    simp only [Act.put, List.setIfInBounds_toArray, List.set_cons_zero, List.set_cons_succ, i64_w, i32_w]
    rfl
  refine one_ (i := 16) (N := some 68) #[true, true, true, true, true, true, true, true, true, true, true, true, true, true, true, true, true, false, false, false, false, false, false, false, false, false, false, false] rfl rfl (by kernel_rfl) (by decide) (fun K hK => ?_)
  refine goes_ Try.func42 (by kernel_rfl) rfl #[.agg #[.slice A7 l.length c7, .int .i64 p], .agg #[.slice A l.length c, .int .i64 p]] (by rfl) rfl rfl (by simp only [List.map_toArray, List.map_cons, List.map_nil]; rfl) ?_
  with_reducible refine (rsame_calls hC7 hc7 HlL.out (Kd.C_below HC.out (below_step HB9.out hHeld.1)) hcc p p true HbT.out).mono ?_
  rintro e w17 ⟨rfl, hb⟩
  refine ⟨_, rfl, ?_⟩
  refine hK.out _ _ ⟨below_step hHeld.1 hb, ck2 (blk_below BX9.out (below_step hHeld.1 hb)), ck2 (blk_below BZ9.out (below_step hHeld.1 hb)), ck2 (blk_below BC9.out (below_step hHeld.1 hb)), ck2 (blk_below BD9.out (below_step hHeld.1 hb)), ck2 (blk_below BE9.out (below_step hHeld.1 hb)), ck2 (blk_below BF9.out (below_step hHeld.1 hb))⟩ (fun hHeld => ?_)
  clear hK K
  refine norm_ (a' := ?_) ?_ ?_
  rotate_left
  · show Act.put _ (some 68) _ = _
    simp only [Act.put, List.setIfInBounds_toArray, List.set_cons_zero, List.set_cons_succ, i64_w, i32_w]
    rfl
  refine pure_ (i := 17) (N := some 69) (v := ?_) (a' := ?_) #[true, true, true, true, true, true, true, true, true, true, true, true, true, true, true, true, true, true, false, false, false, false, false, false, false, false, false, false] rfl rfl (by kernel_rfl) (fun _ _ _ h => h) (Or.inl ⟨by rfl, ?_⟩) ?_ ?_
  rotate_left
  · intro w'
    go_simp
    with_reducible rfl
  rotate_left
  · simp only [Act.put, List.setIfInBounds_toArray, List.set_cons_zero, List.set_cons_succ, i64_w, i32_w]
    rfl
  refine pure_ (i := 18) (N := some 70) (v := ?_) (a' := ?_) #[true, true, true, true, true, true, true, true, true, true, true, true, true, true, true, true, true, true, true, false, false, false, false, false, false, false, false, false] rfl rfl (by kernel_rfl) (fun _ _ _ h => h) (Or.inl ⟨by rfl, ?_⟩) ?_ ?_
  rotate_left
  · intro w'
    go_simp
    with_reducible rfl
  rotate_left
  · simp only [Act.put, List.setIfInBounds_toArray, List.set_cons_zero, List.set_cons_succ, i64_w, i32_w]
    rfl
  refine take_ (i := 19) (N := some 71) (v := ?_) (a' := ?_) #[true, true, true, true, true, true, true, true, true, true, true, true, true, true, true, true, true, true, true, true, false, false, false, false, false, false, false, false] rfl rfl (by kernel_rfl) (fun _ _ _ h => h) (Or.inl ⟨by rfl, ?_⟩) hHeld ?_ ?_
  rotate_left
  · rintro w' ⟨s0, s1, s2, s3, s4, s5, s6⟩
    go_simp
    with_reducible rfl
  rotate_left
  · simp only [Act.put, List.setIfInBounds_toArray, List.set_cons_zero, List.set_cons_succ, i64_w, i32_w]
    rfl
  refine take_ (i := 20) (N := some 72) (v := ?_) (a' := ?_) #[true, true, true, true, true, true, true, true, true, true, true, true, true, true, true, true, true, true, true, true, true, false, false, false, false, false, false, false] rfl rfl (by kernel_rfl) (fun _ _ _ h => h) (Or.inl ⟨by rfl, ?_⟩) hHeld ?_ ?_
  rotate_left
  · rintro w' ⟨s0, s1, s2, s3, s4, s5, s6⟩
    go_simp
    with_reducible rfl
  rotate_left
  · simp only [Act.put, List.setIfInBounds_toArray, List.set_cons_zero, List.set_cons_succ, i64_w, i32_w]
    rfl
  refine take_ (i := 22) (N := some 74) (v := ?_) (a' := ?_) #[true, true, true, true, true, true, true, true, true, true, true, true, true, true, true, true, true, true, true, true, true, false, true, false, false, false, false, false] rfl rfl (by kernel_rfl) (fun _ _ _ h => h) (Or.inl ⟨by rfl, ?_⟩) hHeld ?_ ?_
  rotate_left
  · rintro w' ⟨s0, s1, s2, s3, s4, s5, s6⟩
    go_simp
    with_reducible rfl
  rotate_left
  · simp only [Act.put, List.setIfInBounds_toArray, List.set_cons_zero, List.set_cons_succ, i64_w, i32_w]
    rfl
  refine take_ (i := 23) (N := some 75) (v := ?_) (a' := ?_) #[true, true, true, true, true, true, true, true, true, true, true, true, true, true, true, true, true, true, true, true, true, false, true, true, false, false, false, false] rfl rfl (by kernel_rfl) (fun _ _ _ h => h) (Or.inl ⟨by rfl, ?_⟩) hHeld ?_ ?_
  rotate_left
  · rintro w' ⟨s0, s1, s2, s3, s4, s5, s6⟩
    go_simp
    with_reducible rfl
  rotate_left
  · simp only [Act.put, List.setIfInBounds_toArray, List.set_cons_zero, List.set_cons_succ, i64_w, i32_w]
    rfl
  refine one_ (i := 21) (N := some 73) #[true, true, true, true, true, true, true, true, true, true, true, true, true, true, true, true, true, true, true, true, true, true, true, true, false, false, false, false] rfl rfl (by kernel_rfl) (by decide) (fun K hK => ?_)
  refine goes_ Try.func44 (by kernel_rfl) rfl #[.agg #[.slice A3 r.1.length c3, .int .i64 r.2.1], .agg #[.slice A2 l.length c2, .int .i64 p]] (by rfl) rfl rfl (by simp only [List.map_toArray, List.map_cons, List.map_nil]; rfl) ?_
  with_reducible refine (HPs.out _ (Kd.C_below HC9.out hHeld.1) (Kd.C_below HX9.out hHeld.1)).mono ?_
  rintro e w18 ⟨rfl, hb⟩
  refine ⟨_, rfl, ?_⟩
  refine hK.out _ _ ⟨below_step hHeld.1 hb, ck2 (blk_below BX9.out (below_step hHeld.1 hb)), ck2 (blk_below BZ9.out (below_step hHeld.1 hb)), ck2 (blk_below BC9.out (below_step hHeld.1 hb)), ck2 (blk_below BD9.out (below_step hHeld.1 hb)), ck2 (blk_below BE9.out (below_step hHeld.1 hb)), ck2 (blk_below BF9.out (below_step hHeld.1 hb))⟩ (fun hHeld => ?_)
  clear hK K
  refine norm_ (a' := ?_) ?_ ?_
  rotate_left
  · show Act.put _ (some 73) _ = _
    simp only [Act.put, List.setIfInBounds_toArray, List.set_cons_zero, List.set_cons_succ, i64_w, i32_w]
    rfl
  refine one_ (i := 24) (N := some 76) #[true, true, true, true, true, true, true, true, true, true, true, true, true, true, true, true, true, true, true, true, true, true, true, true, true, false, false, false] rfl rfl (by kernel_rfl) (by decide) (fun K hK => ?_)
  refine goes_ Try.func42 (by kernel_rfl) rfl #[.agg #[.slice A4 M.length c4, .int .i64 r.2.1], .agg #[.slice A l.length c, .int .i64 p]] (by rfl) rfl rfl (by simp only [List.map_toArray, List.map_cons, List.map_nil]; rfl) ?_
  with_reducible refine (rsame_calls (Kd.C_below HM9.out hHeld.1) HMc.out HML.out (Kd.C_below HC.out (below_step HB9.out hHeld.1)) hcc r.2.1 p bq HbS.out).mono ?_
  rintro e w19 ⟨rfl, hb⟩
  refine ⟨_, rfl, ?_⟩
  refine hK.out _ _ ⟨below_step hHeld.1 hb, ck2 (blk_below BX9.out (below_step hHeld.1 hb)), ck2 (blk_below BZ9.out (below_step hHeld.1 hb)), ck2 (blk_below BC9.out (below_step hHeld.1 hb)), ck2 (blk_below BD9.out (below_step hHeld.1 hb)), ck2 (blk_below BE9.out (below_step hHeld.1 hb)), ck2 (blk_below BF9.out (below_step hHeld.1 hb))⟩ (fun hHeld => ?_)
  clear hK K
  refine norm_ (a' := ?_) ?_ ?_
  rotate_left
  · show Act.put _ (some 76) _ = _
    simp only [Act.put, List.setIfInBounds_toArray, List.set_cons_zero, List.set_cons_succ, i64_w, i32_w]
    rfl
  refine pure_ (i := 25) (N := some 77) (v := ?_) (a' := ?_) #[true, true, true, true, true, true, true, true, true, true, true, true, true, true, true, true, true, true, true, true, true, true, true, true, true, true, false, false] rfl rfl (by kernel_rfl) (fun _ _ _ h => h) (Or.inl ⟨by rfl, ?_⟩) ?_ ?_
  rotate_left
  · intro w'
    go_simp
    with_reducible rfl
  rotate_left
  · simp only [Act.put, List.setIfInBounds_toArray, List.set_cons_zero, List.set_cons_succ, i64_w, i32_w]
    rfl
  refine pure_ (i := 26) (N := some 78) (v := ?_) (a' := ?_) #[true, true, true, true, true, true, true, true, true, true, true, true, true, true, true, true, true, true, true, true, true, true, true, true, true, true, true, false] rfl rfl (by kernel_rfl) (fun _ _ _ h => h) (Or.inl ⟨by rfl, ?_⟩) ?_ ?_
  rotate_left
  · intro w'
    go_simp
    with_reducible rfl
  rotate_left
  · simp only [Act.put, List.setIfInBounds_toArray, List.set_cons_zero, List.set_cons_succ, i64_w, i32_w]
    rfl
  refine pure_ (i := 27) (N := some 6) (v := ?_) (a' := ?_) #[true, true, true, true, true, true, true, true, true, true, true, true, true, true, true, true, true, true, true, true, true, true, true, true, true, true, true, true] rfl rfl (by kernel_rfl) (fun _ _ _ h => h) (Or.inl ⟨by rfl, ?_⟩) ?_ ?_
  rotate_left
  · intro w'
    go_simp
    with_reducible rfl
  rotate_left
  · simp only [Act.put, List.setIfInBounds_toArray, List.set_cons_zero, List.set_cons_succ, i64_w, i32_w]
    rfl
  refine done_ (by kernel_rfl) ?_
  go_wp2_with fail
  go_ret
  exact ⟨rfl, HB9.out.trans (hHeld.1.mono HB9.out.size)⟩
set_option maxHeartbeats 4000000 in
set_option maxRecDepth 100000 in
theorem puts_out {w : World} {A B : Option Addr} {c d : Nat} {l : List S29} {m : List Int} (hh : 10 < l.length ∨ 20 < m.length) (p : Int) (x : S29) :
    Calls Try.prog 7 #[.agg #[.slice A l.length c, .int .i64 p], .agg #[.int .i64 x.f0.f0, .int .i64 x.f0.f1, .int .i64 x.f0.f2, .bool x.f0.f3, .int .i64 x.f1.f0, .int .i64 x.f1.f1, .int .i64 x.f1.f2, .int .i64 x.f2, .int .i64 x.f3, .int .u32 x.f4, .int .i64 x.f5], .slice B m.length d] w fun e w' => e = .returned (.bool true) ∧ Below w.heap.size w w' := by
  obtain ⟨g, hg⟩ : ∃ g, g = w.heap.size := ⟨_, rfl⟩
  have HB := Aside0.mk (b1 (b1 (Below.refl w.heap.size w) (.cells #[.slice A l.length c, .int .i64 p] 66)) (.cells (cs34 (cv x)).toArray 29))
  have HX := Aside0.mk (q3 (blk_new w (.cells #[.slice A l.length c, .int .i64 p] 66)) (.cells (cs34 (cv x)).toArray 29))
  rw [← hg] at HX
  have HG := Aside0.mk hg
  have HA := Aside0.mk (alive_calls ((w.alloc (.cells #[.slice A l.length c, .int .i64 p] 66)).alloc (.cells (cs34 (cv x)).toArray 29)))
  clear hg
  unfold cs34 at HB HX HA
  have HH := Aside0.mk (show 10 < (l.length : Int) ∨ 20 < (m.length : Int) by omega)
  clear hh
  go_enter Try.func7, Try.ntmps7
  go_wp2_with fail
  refine HA.out.mono ?_
  rw [← HG.out]
  rintro e w1 ⟨rfl, hb⟩
  have BX1 := Aside0.mk (blk_below HX.out hb)
  have HB1 := Aside0.mk (below_step HB.out hb)
  clear hb
  have hx := ck2 BX1.out
  rcases HH.out with h | h
  · go_wp2_with fail
    go_ret
    exact ⟨rfl, HB1.out⟩
  · by_cases h2 : 10 < (l.length : Int)
    · go_wp2_with fail
      go_ret
      exact ⟨rfl, HB1.out⟩
    · go_wp2_with fail
      go_ret
      exact ⟨rfl, HB1.out⟩
end Go.Proofs.Ytblooffiggciiaa.Ps
/- PsAe -/
namespace Go.Proofs.Ytblooffiggciiaa.Ps
open Go.RowKit Go.Proofs.Ytblooffiggciiaa.PPs Go.Proofs.YtblooffiggciiaaW.PrintWords Go.Proofs.YtblooffiggciiaaW.PrintLast Go.Proofs.YtblooffiggciiaaW.PrintMore Go.Proofs.Ytblooffiggciiaa.Sh
set_option linter.unusedVariables false
set_option linter.unusedSimpArgs false
set_option maxRecDepth 100000
theorem pathsPuts_walk (W : World) (A0_0 : Option Addr) (c0_0 : Nat) (l0_0 : (List ((Int × Int × Int × Bool) × (Int × Int × Int) × Int × Int × Int × Int))) (a0_1 : Int) (a1_0_0 : Int) (a1_0_1 : Int) (a1_0_2 : Int) (a1_0_3 : Bool) (a1_1_0 : Int) (a1_1_1 : Int) (a1_1_2 : Int) (a1_2 : Int) (a1_3 : Int) (a1_4 : Int) (a1_5 : Int) (A2 : Option Addr) (c2 : Nat) (l2 : (List Int)) (hc0_0 : l0_0.length ≤ c0_0) (hr0_0 : Kd.C (Kd.pair (Kd.pair (Kd.int .i64) (Kd.pair (Kd.int .i64) (Kd.pair (Kd.int .i64) Kd.bool))) (Kd.pair (Kd.pair (Kd.int .i64) (Kd.pair (Kd.int .i64) (Kd.int .i64))) (Kd.pair (Kd.int .i64) (Kd.pair (Kd.int .i64) (Kd.pair (Kd.int .u32) (Kd.int .i64)))))) W A0_0 l0_0.length l0_0) (w0_0 : (∀ z0_0 ∈ l0_0, (((Lit.int .i64 z0_0.1.1).wf = true ∧ (Lit.int .i64 z0_0.1.2.1).wf = true ∧ (Lit.int .i64 z0_0.1.2.2.1).wf = true ∧ True) ∧ ((Lit.int .i64 z0_0.2.1.1).wf = true ∧ (Lit.int .i64 z0_0.2.1.2.1).wf = true ∧ (Lit.int .i64 z0_0.2.1.2.2).wf = true) ∧ (Lit.int .i64 z0_0.2.2.1).wf = true ∧ (Lit.int .i64 z0_0.2.2.2.1).wf = true ∧ (Lit.int .u32 z0_0.2.2.2.2.1).wf = true ∧ (Lit.int .i64 z0_0.2.2.2.2.2).wf = true))) (w0_1 : (Lit.int .i64 a0_1).wf = true) (w1_0_0 : (Lit.int .i64 a1_0_0).wf = true) (w1_0_1 : (Lit.int .i64 a1_0_1).wf = true) (w1_0_2 : (Lit.int .i64 a1_0_2).wf = true) (w1_1_0 : (Lit.int .i64 a1_1_0).wf = true) (w1_1_1 : (Lit.int .i64 a1_1_1).wf = true) (w1_1_2 : (Lit.int .i64 a1_1_2).wf = true) (w1_2 : (Lit.int .i64 a1_2).wf = true) (w1_3 : (Lit.int .i64 a1_3).wf = true) (w1_4 : (Lit.int .u32 a1_4).wf = true) (w1_5 : (Lit.int .i64 a1_5).wf = true) (hc2 : l2.length ≤ c2) (hr2 : Kd.C (Kd.int .i64) W A2 l2.length l2) (w2 : (∀ zl2 ∈ l2, (Lit.int .i64 zl2).wf = true)) :
    Calls Try.prog 7 #[.agg #[.slice A0_0 l0_0.length c0_0, .int .i64 a0_1], .agg #[.int .i64 a1_0_0, .int .i64 a1_0_1, .int .i64 a1_0_2, .bool a1_0_3, .int .i64 a1_1_0, .int .i64 a1_1_1, .int .i64 a1_1_2, .int .i64 a1_2, .int .i64 a1_3, .int .u32 a1_4, .int .i64 a1_5], .slice A2 l2.length c2] W fun e w' => e = .returned (.bool true) ∧ Below W.heap.size W w' := by
  have e1 : (l0_0.map un).length = l0_0.length := List.length_map ..
  by_cases h : l0_0.length ≤ 10 ∧ l2.length ≤ 20
  · have := puts_in (C_un hr0_0) (by rw [e1]; exact hc0_0) (by rw [e1]; exact h.1) a0_1 ⟨⟨a1_0_0, a1_0_1, a1_0_2, a1_0_3⟩, ⟨a1_1_0, a1_1_1, a1_1_2⟩, a1_2, a1_3, a1_4, a1_5⟩ hr2 hc2 h.2
    rw [e1] at this
    exact this
  · have := puts_out (w := W) (A := A0_0) (B := A2) (c := c0_0) (d := c2) (l := l0_0.map un) (m := l2) (by rw [e1]; omega) a0_1 ⟨⟨a1_0_0, a1_0_1, a1_0_2, a1_0_3⟩, ⟨a1_1_0, a1_1_1, a1_1_2⟩, a1_2, a1_3, a1_4, a1_5⟩
    rw [e1] at this
    exact this
end Go.Proofs.Ytblooffiggciiaa.Ps
/- Opn -/
namespace Go.Proofs.Ytblooffiggciiaa.Opn
open Go.RowKit Go.Deep Go.WideShapes Go.ChangeShapes Go.Proofs.YtblooffiggciiaaW.PrintWords
set_option linter.unusedVariables false
/-- What reads at type T is told by the kind d, and fits wf. -/
def Opn (P : Program) (w : World) (T : TypeId) {α : Type} (d : Kd α) (wf : α → Prop) : Prop :=
  ∀ {H : Type} {enc : TypeId × Value → H} {base : Nat} {spare : Nat → Bool} {held : Bool} {fuel : Nat} {cs : List Value} {y : DataW H × List MemPlace},
    DataW.trod enc P w base spare held fuel T cs = some y → ∃ x, d.K w x cs ∧ wf x

section
variable {P : Program} {w : World} {T e : TypeId} {α β : Type}
theorem int {k : IntKind} (hu : P.underlying T = some (.int k)) : Opn P w T (Kd.int k) (fun x => (Lit.int k x).wf = true) := by
  intro H enc base spare held fuel cs y h
  obtain ⟨n, rfl, _, wn⟩ := DataW.trod_int hu h
  exact ⟨n, rfl, wn⟩
theorem bool (hu : P.underlying T = some .bool) : Opn P w T Kd.bool (fun _ => True) := by
  intro H enc base spare held fuel cs y h
  obtain ⟨n, rfl, _⟩ := DataW.trod_bool hu h
  exact ⟨n, rfl, trivial⟩
theorem list_of {p : Nat → α → Prop} : ∀ (n : Nat), (∀ i, i < n → ∃ x, p i x) → ∃ xs : List α, xs.length = n ∧ ∀ i x, xs[i]? = some x → p i x
  | 0, _ => ⟨[], rfl, fun i x h => by simp at h⟩
  | n + 1, h => by
    obtain ⟨xs, hl, hp⟩ := list_of n (fun i hi => h i (by omega))
    obtain ⟨x, hx⟩ := h n (by omega)
    refine ⟨xs ++ [x], by simp [hl], fun i y hy => ?_⟩
    by_cases hi : i < xs.length
    · rw [List.getElem?_append_left hi] at hy; exact hp i y hy
    · rw [List.getElem?_append_right (by omega)] at hy
      have h0 : i - xs.length = 0 := by
        rcases Nat.eq_zero_or_pos (i - xs.length) with h' | h'
        · exact h'
        · rw [List.getElem?_eq_none (by simp; omega)] at hy; cases hy
      rw [h0] at hy
      simp at hy
      subst hy
      obtain rfl : i = n := by omega
      exact hx

theorem slice {q : Nat} {d : Kd α} {wf : α → Prop} (hu : P.underlying T = some (.slice e)) (hs : P.cellsOf e = d.sz) (he : Opn P w e d wf) :
    Opn P w T (Kd.slice q d) (fun xs => ∀ x ∈ xs, wf x) := by
  intro H enc base spare held fuel cs y h
  rcases open_slice hu h with ⟨rfl, rfl⟩ | ⟨a, len, cap, m, n, D, Pl, rfl, hb, hl, hm, hmm, rfl, hx⟩
  · exact ⟨[], ⟨none, 0, rfl, Nat.le_refl _, rfl, by simp, fun h => absurd h (Nat.lt_irrefl 0)⟩, by simp⟩
  · have hlm : len ≤ m := by rw [hmm]; split <;> omega
    obtain ⟨xs, hlen, hp⟩ := list_of (p := fun i x => (∃ cs', w.cells? base (a.add (i * P.cellsOf e)) (P.cellsOf e) = some cs' ∧ d.K w x cs') ∧ wf x) len (fun i hi => by
      obtain ⟨cs', h1, h2⟩ := hx i (by omega)
      obtain ⟨x, hk, hw⟩ := he h2
      exact ⟨x, ⟨cs', h1, hk⟩, hw⟩)
    refine ⟨xs, ⟨some a, cap, by rw [hlen], by omega, rfl, by unfold maxLen at hm; omega, fun _ => ⟨a, rfl, fun j x hj => ?_⟩⟩, fun x hx' => ?_⟩
    · obtain ⟨⟨cs', h1, hk⟩, _⟩ := hp j x hj
      refine ⟨cs', d.K_len hk, hk, fun i u hu' => ?_⟩
      obtain ⟨_, hl2, hc⟩ := World.cells?_some h1
      have hi : i < cs'.length := by
        rcases Nat.lt_or_ge i cs'.length with h' | h'
        · exact h'
        · rw [List.getElem?_eq_none h'] at hu'; cases hu'
      have := hc i (by omega)
      rw [Deep.add_add, hs] at this
      rw [this]; exact hu'
    · obtain ⟨i, hi⟩ := List.getElem?_of_mem hx'
      exact (hp i x hi).2

/-- A part of cells. -/
def At (w : World) (d : Kd α) (wf : α → Prop) (cs : List Value) : Prop := ∃ x, d.K w x cs ∧ wf x
theorem at_field {d : Kd α} {wf : α → Prop} {H : Type} {enc : TypeId × Value → H} {base : Nat} {spare : Nat → Bool} {held : Bool} {n i o s : Nat} {f : Field} {cs : List Value} {xs : List (DataW H × List MemPlace)}
    (h : DataW.trod enc P w base spare held n f.type ((cs.drop f.offset).take (P.cellsOf f.type)) = xs[i]?) (ho : f.offset = o) (ht : f.type = T) (hs : P.cellsOf T = s) (hi : i < xs.length) (he : Opn P w T d wf) : At w d wf ((cs.drop o).take s) := by
  subst ho; subst ht; subst hs
  rw [List.getElem?_eq_getElem hi] at h
  exact he h
theorem at_pair {a : Kd α} {b : Kd β} {wa : α → Prop} {wb : β → Prop} {cs : List Value} {o s t : Nat} (ha : At w a wa ((cs.drop o).take s)) (hb : At w b wb ((cs.drop (o + s)).take t)) :
    At w (Kd.pair a b) (fun x => wa x.1 ∧ wb x.2) ((cs.drop o).take (s + t)) := by
  obtain ⟨x, hx, w1⟩ := ha
  obtain ⟨y, hy, w2⟩ := hb
  refine ⟨(x, y), ⟨_, _, ?_, hx, hy⟩, w1, w2⟩
  rw [List.take_add, List.drop_drop]
theorem of_at {d : Kd α} {wf : α → Prop} {cs : List Value} {n : Nat} (h : At w d wf ((cs.drop 0).take n)) (hl : cs.length = n) : ∃ x, d.K w x cs ∧ wf x := by
  rw [List.drop_zero, List.take_of_length_le (by omega)] at h
  exact h
theorem array {n : Nat} {d : Kd α} {wf : α → Prop} (hp : 0 < d.sz) (hu : P.underlying T = some (.array n e)) (hs : P.cellsOf e = d.sz) (hT : P.cellsOf T = n * d.sz) (he : Opn P w e d wf) :
    Opn P w T (Kd.arr n d hp) (fun xs => ∀ x ∈ xs, wf x) := by
  intro H enc base spare held fuel cs y h
  obtain ⟨xs, m, rfl, rfl, hl, hlen, hf⟩ := DataW.trod_array hu h
  obtain ⟨zs, hz, hp⟩ := list_of (p := fun i x => d.K w x ((cs.drop (i * d.sz)).take d.sz) ∧ wf x) n (fun i hi => by
    have h0 := hf i hi
    rw [List.getElem?_eq_getElem (by omega), hs] at h0
    exact he h0)
  refine ⟨zs, ⟨hz, by rw [hl, hT, hz], fun m p hm => (hp m p hm).1⟩, fun x hx => ?_⟩
  obtain ⟨i, hi⟩ := List.getElem?_of_mem hx
  exact (hp i x hi).2
end
end Go.Proofs.Ytblooffiggciiaa.Opn
/- RowPathsPuts -/
namespace Go.Proofs.Ytblooffiggciiaa.pathsPuts
open Go.ChangeShapes Go.WideShapes Go.ChangeAt Go.RowKit Go.Proofs.YtblooffiggciiaaW.PrintWords
open Go.ChangeMaps (open_string shut_string)
set_option linter.unusedVariables false
set_option linter.unusedSimpArgs false
theorem own : ownKnob Try.prog.godebug = none := by kernel_rfl
theorem laidOut : laidOutB Try.prog = true := by kernel_rfl
theorem cells64 : Try.prog.cellsOf 64 = 1 := by kernel_rfl
theorem cells27 : Try.prog.cellsOf 27 = 1 := by kernel_rfl
theorem cells26 : Try.prog.cellsOf 26 = 1 := by kernel_rfl
theorem cells25 : Try.prog.cellsOf 25 = 3 := by kernel_rfl
theorem cells23 : Try.prog.cellsOf 23 = 4 := by kernel_rfl
theorem cells4 : Try.prog.cellsOf 4 = 1 := by kernel_rfl
theorem cells3 : Try.prog.cellsOf 3 = 1 := by kernel_rfl
theorem opn23 {W : World} : Opn.Opn Try.prog W 23 (Kd.pair (Kd.int .i64) (Kd.pair (Kd.int .i64) (Kd.pair (Kd.int .i64) Kd.bool))) (fun x => ((Lit.int .i64 x.1).wf = true ∧ (Lit.int .i64 x.2.1).wf = true ∧ (Lit.int .i64 x.2.2.1).wf = true ∧ True)) := by
  intro H enc base spare held fuel cs y h
  obtain ⟨xs, n, _, rfl, hl, hlen, hf⟩ := DataW.trod_struct Try.underlying23 h
  have g0 : Opn.At W (Kd.int .i64) (fun x => (Lit.int .i64 x).wf = true) ((cs.drop 0).take 1) := Opn.at_field (hf 0 _ rfl) rfl rfl cells3 (by rw [hlen]; decide) (Opn.int Try.underlying3)
  have g1 : Opn.At W (Kd.int .i64) (fun x => (Lit.int .i64 x).wf = true) ((cs.drop 1).take 1) := Opn.at_field (hf 1 _ rfl) rfl rfl cells3 (by rw [hlen]; decide) (Opn.int Try.underlying3)
  have g2 : Opn.At W (Kd.int .i64) (fun x => (Lit.int .i64 x).wf = true) ((cs.drop 2).take 1) := Opn.at_field (hf 2 _ rfl) rfl rfl cells3 (by rw [hlen]; decide) (Opn.int Try.underlying3)
  have g3 : Opn.At W Kd.bool (fun x => True) ((cs.drop 3).take 1) := Opn.at_field (hf 3 _ rfl) rfl rfl cells4 (by rw [hlen]; decide) (Opn.bool Try.underlying4)
  obtain ⟨x, hk, hw⟩ := Opn.of_at (Opn.at_pair g0 (Opn.at_pair g1 (Opn.at_pair g2 g3))) (hl.trans (by kernel_rfl))
  exact ⟨x, hk, hw⟩
theorem opn25 {W : World} : Opn.Opn Try.prog W 25 (Kd.pair (Kd.int .i64) (Kd.pair (Kd.int .i64) (Kd.int .i64))) (fun x => ((Lit.int .i64 x.1).wf = true ∧ (Lit.int .i64 x.2.1).wf = true ∧ (Lit.int .i64 x.2.2).wf = true)) := by
  intro H enc base spare held fuel cs y h
  obtain ⟨xs, n, _, rfl, hl, hlen, hf⟩ := DataW.trod_struct Try.underlying25 h
  have g0 : Opn.At W (Kd.int .i64) (fun x => (Lit.int .i64 x).wf = true) ((cs.drop 0).take 1) := Opn.at_field (hf 0 _ rfl) rfl rfl cells3 (by rw [hlen]; decide) (Opn.int Try.underlying3)
  have g1 : Opn.At W (Kd.int .i64) (fun x => (Lit.int .i64 x).wf = true) ((cs.drop 1).take 1) := Opn.at_field (hf 1 _ rfl) rfl rfl cells3 (by rw [hlen]; decide) (Opn.int Try.underlying3)
  have g2 : Opn.At W (Kd.int .i64) (fun x => (Lit.int .i64 x).wf = true) ((cs.drop 2).take 1) := Opn.at_field (hf 2 _ rfl) rfl rfl cells3 (by rw [hlen]; decide) (Opn.int Try.underlying3)
  obtain ⟨x, hk, hw⟩ := Opn.of_at (Opn.at_pair g0 (Opn.at_pair g1 g2)) (hl.trans (by kernel_rfl))
  exact ⟨x, hk, hw⟩
theorem opn29 {W : World} : Opn.Opn Try.prog W 29 (Kd.pair (Kd.pair (Kd.int .i64) (Kd.pair (Kd.int .i64) (Kd.pair (Kd.int .i64) Kd.bool))) (Kd.pair (Kd.pair (Kd.int .i64) (Kd.pair (Kd.int .i64) (Kd.int .i64))) (Kd.pair (Kd.int .i64) (Kd.pair (Kd.int .i64) (Kd.pair (Kd.int .u32) (Kd.int .i64)))))) (fun x => (((Lit.int .i64 x.1.1).wf = true ∧ (Lit.int .i64 x.1.2.1).wf = true ∧ (Lit.int .i64 x.1.2.2.1).wf = true ∧ True) ∧ ((Lit.int .i64 x.2.1.1).wf = true ∧ (Lit.int .i64 x.2.1.2.1).wf = true ∧ (Lit.int .i64 x.2.1.2.2).wf = true) ∧ (Lit.int .i64 x.2.2.1).wf = true ∧ (Lit.int .i64 x.2.2.2.1).wf = true ∧ (Lit.int .u32 x.2.2.2.2.1).wf = true ∧ (Lit.int .i64 x.2.2.2.2.2).wf = true)) := by
  intro H enc base spare held fuel cs y h
  obtain ⟨xs, n, _, rfl, hl, hlen, hf⟩ := DataW.trod_struct Try.underlying29 h
  have g0 : Opn.At W (Kd.pair (Kd.int .i64) (Kd.pair (Kd.int .i64) (Kd.pair (Kd.int .i64) Kd.bool))) (fun x => ((Lit.int .i64 x.1).wf = true ∧ (Lit.int .i64 x.2.1).wf = true ∧ (Lit.int .i64 x.2.2.1).wf = true ∧ True)) ((cs.drop 0).take 4) := Opn.at_field (hf 0 _ rfl) rfl rfl cells23 (by rw [hlen]; decide) opn23
  have g1 : Opn.At W (Kd.pair (Kd.int .i64) (Kd.pair (Kd.int .i64) (Kd.int .i64))) (fun x => ((Lit.int .i64 x.1).wf = true ∧ (Lit.int .i64 x.2.1).wf = true ∧ (Lit.int .i64 x.2.2).wf = true)) ((cs.drop 4).take 3) := Opn.at_field (hf 1 _ rfl) rfl rfl cells25 (by rw [hlen]; decide) opn25
  have g2 : Opn.At W (Kd.int .i64) (fun x => (Lit.int .i64 x).wf = true) ((cs.drop 7).take 1) := Opn.at_field (hf 2 _ rfl) rfl rfl cells26 (by rw [hlen]; decide) (Opn.int Try.underlying26)
  have g3 : Opn.At W (Kd.int .i64) (fun x => (Lit.int .i64 x).wf = true) ((cs.drop 8).take 1) := Opn.at_field (hf 3 _ rfl) rfl rfl cells3 (by rw [hlen]; decide) (Opn.int Try.underlying3)
  have g4 : Opn.At W (Kd.int .u32) (fun x => (Lit.int .u32 x).wf = true) ((cs.drop 9).take 1) := Opn.at_field (hf 4 _ rfl) rfl rfl cells27 (by rw [hlen]; decide) (Opn.int Try.underlying27)
  have g5 : Opn.At W (Kd.int .i64) (fun x => (Lit.int .i64 x).wf = true) ((cs.drop 10).take 1) := Opn.at_field (hf 5 _ rfl) rfl rfl cells3 (by rw [hlen]; decide) (Opn.int Try.underlying3)
  obtain ⟨x, hk, hw⟩ := Opn.of_at (Opn.at_pair g0 (Opn.at_pair g1 (Opn.at_pair g2 (Opn.at_pair g3 (Opn.at_pair g4 g5))))) (hl.trans (by kernel_rfl))
  exact ⟨x, hk, hw⟩
theorem opn64 {W : World} : Opn.Opn Try.prog W 64 (Kd.slice 29 (Kd.pair (Kd.pair (Kd.int .i64) (Kd.pair (Kd.int .i64) (Kd.pair (Kd.int .i64) Kd.bool))) (Kd.pair (Kd.pair (Kd.int .i64) (Kd.pair (Kd.int .i64) (Kd.int .i64))) (Kd.pair (Kd.int .i64) (Kd.pair (Kd.int .i64) (Kd.pair (Kd.int .u32) (Kd.int .i64))))))) (fun x => (∀ zx ∈ x, (((Lit.int .i64 zx.1.1).wf = true ∧ (Lit.int .i64 zx.1.2.1).wf = true ∧ (Lit.int .i64 zx.1.2.2.1).wf = true ∧ True) ∧ ((Lit.int .i64 zx.2.1.1).wf = true ∧ (Lit.int .i64 zx.2.1.2.1).wf = true ∧ (Lit.int .i64 zx.2.1.2.2).wf = true) ∧ (Lit.int .i64 zx.2.2.1).wf = true ∧ (Lit.int .i64 zx.2.2.2.1).wf = true ∧ (Lit.int .u32 zx.2.2.2.2.1).wf = true ∧ (Lit.int .i64 zx.2.2.2.2.2).wf = true))) := Opn.slice Try.underlying64 (by kernel_rfl) opn29
theorem opn66 {W : World} : Opn.Opn Try.prog W 66 (Kd.pair (Kd.slice 29 (Kd.pair (Kd.pair (Kd.int .i64) (Kd.pair (Kd.int .i64) (Kd.pair (Kd.int .i64) Kd.bool))) (Kd.pair (Kd.pair (Kd.int .i64) (Kd.pair (Kd.int .i64) (Kd.int .i64))) (Kd.pair (Kd.int .i64) (Kd.pair (Kd.int .i64) (Kd.pair (Kd.int .u32) (Kd.int .i64))))))) (Kd.int .i64)) (fun x => ((∀ zx1 ∈ x.1, (((Lit.int .i64 zx1.1.1).wf = true ∧ (Lit.int .i64 zx1.1.2.1).wf = true ∧ (Lit.int .i64 zx1.1.2.2.1).wf = true ∧ True) ∧ ((Lit.int .i64 zx1.2.1.1).wf = true ∧ (Lit.int .i64 zx1.2.1.2.1).wf = true ∧ (Lit.int .i64 zx1.2.1.2.2).wf = true) ∧ (Lit.int .i64 zx1.2.2.1).wf = true ∧ (Lit.int .i64 zx1.2.2.2.1).wf = true ∧ (Lit.int .u32 zx1.2.2.2.2.1).wf = true ∧ (Lit.int .i64 zx1.2.2.2.2.2).wf = true)) ∧ (Lit.int .i64 x.2).wf = true)) := by
  intro H enc base spare held fuel cs y h
  obtain ⟨xs, n, _, rfl, hl, hlen, hf⟩ := DataW.trod_struct Try.underlying66 h
  have g0 : Opn.At W (Kd.slice 29 (Kd.pair (Kd.pair (Kd.int .i64) (Kd.pair (Kd.int .i64) (Kd.pair (Kd.int .i64) Kd.bool))) (Kd.pair (Kd.pair (Kd.int .i64) (Kd.pair (Kd.int .i64) (Kd.int .i64))) (Kd.pair (Kd.int .i64) (Kd.pair (Kd.int .i64) (Kd.pair (Kd.int .u32) (Kd.int .i64))))))) (fun x => (∀ zx ∈ x, (((Lit.int .i64 zx.1.1).wf = true ∧ (Lit.int .i64 zx.1.2.1).wf = true ∧ (Lit.int .i64 zx.1.2.2.1).wf = true ∧ True) ∧ ((Lit.int .i64 zx.2.1.1).wf = true ∧ (Lit.int .i64 zx.2.1.2.1).wf = true ∧ (Lit.int .i64 zx.2.1.2.2).wf = true) ∧ (Lit.int .i64 zx.2.2.1).wf = true ∧ (Lit.int .i64 zx.2.2.2.1).wf = true ∧ (Lit.int .u32 zx.2.2.2.2.1).wf = true ∧ (Lit.int .i64 zx.2.2.2.2.2).wf = true))) ((cs.drop 0).take 1) := Opn.at_field (hf 0 _ rfl) rfl rfl cells64 (by rw [hlen]; decide) opn64
  have g1 : Opn.At W (Kd.int .i64) (fun x => (Lit.int .i64 x).wf = true) ((cs.drop 1).take 1) := Opn.at_field (hf 1 _ rfl) rfl rfl cells3 (by rw [hlen]; decide) (Opn.int Try.underlying3)
  obtain ⟨x, hk, hw⟩ := Opn.of_at (Opn.at_pair g0 g1) (hl.trans (by kernel_rfl))
  exact ⟨x, hk, hw⟩
theorem opn67 {W : World} : Opn.Opn Try.prog W 67 (Kd.slice 26 (Kd.int .i64)) (fun x => (∀ zx ∈ x, (Lit.int .i64 zx).wf = true)) := Opn.slice Try.underlying67 (by kernel_rfl) (Opn.int Try.underlying26)
set_option maxRecDepth 100000 in
theorem lifted (os : Os) (started : os.Started) (H : Type) (enc : TypeId × Value → H) :
    ReturnsInHanded {} Try.checked os 7 .any (Rows.pathsPutsSpec.pre6 enc Try.prog Try.f7 Rows.pathsPutsRow.domain false) (Rows.pathsPutsSpec.post enc Try.prog Try.f7 false true false false) := by
  refine returnsInHanded_of_change_sized (C := Try.checked) own started (by kernel_rfl) Try.func7
    (ChangeSpec.witness6 (enc := enc) (C := Try.checked) false ⟨#[], #[.agg #[.slice none 0 0, .int .i64 0], .agg #[.int .i64 0, .int .i64 0, .int .i64 0, .bool false, .int .i64 0, .int .i64 0, .int .i64 0, .int .i64 0, .int .i64 0, .int .u32 0, .int .i64 0], .slice none 0 0], []⟩ 8 (by kernel_rfl) (by kernel_rfl) (by kernel_rfl) (by kernel_rfl)) ?_
  intro W base args ds gs before hval0 hW hcnd hsz0 _
  have hval : ∀ (j : Nat) t v, Try.f7.params[j]? = some t → args[j]? = some v → Value.okWide Try.prog W .any base t v := hval0
  have hW' := hW
  obtain ⟨p, q, hA0, hV, rfl, hfz, hnd⟩ := hW
  have hA : DataW.TrodAll enc Try.prog W 0 (fun _ => true) true Try.f7.params.toList args.toList ds p := hA0
  rw [Try.params7] at hA hval
  obtain ⟨v0, vs0, d0, ds0, p0, q0, hargs, rfl, rfl, h0, r0⟩ := trodAll_cons hA
  obtain ⟨v1, vs1, d1, ds1, p1, q1, rfl, rfl, rfl, h1, r1⟩ := trodAll_cons r0
  obtain ⟨v2, vs2, d2, ds2, p2, q2, rfl, rfl, rfl, h2, r2⟩ := trodAll_cons r1
  obtain ⟨rfl, rfl, rfl⟩ := trodAll_nil r2
  obtain rfl : args = #[v0, v1, v2] := by cases args; simp_all
  obtain ⟨rfl, rfl⟩ := trodVars_none hV
  have kk0 := h0
  have lt0 : ∀ x ∈ p0, x.block < W.heap.size := by obtain ⟨m, hm⟩ := kk0; exact DataW.trod_lt m _ _ _ hm
  obtain ⟨fu0, hf0⟩ := h0
  obtain ⟨cs0, rfl, _⟩ := okWide_struct Try.underlying66 (hval 0 66 v0 rfl rfl)
  obtain ⟨xx0, hk0, ww0⟩ := opn66 hf0
  obtain ⟨l0_0, a0_1⟩ := xx0
  obtain ⟨z0, hz0⟩ : ∃ z, z = (Value.agg cs0).cells.toList := ⟨_, rfl⟩
  rw [← hz0] at hk0
  obtain ⟨_, _, rfl, ⟨A0_0, c0_0, rfl, hc0_0, hr0_0⟩, rfl⟩ := hk0
  simp only [Value.cells, List.cons_append, List.nil_append] at hz0
  obtain rfl : cs0 = #[.slice A0_0 l0_0.length c0_0, .int .i64 a0_1] := by rw [← Array.toArray_toList (xs := cs0), ← hz0]
  obtain ⟨w0_0, w0_1⟩ := ww0
  have kk1 := h1
  have lt1 : ∀ x ∈ p1, x.block < W.heap.size := by obtain ⟨m, hm⟩ := kk1; exact DataW.trod_lt m _ _ _ hm
  obtain ⟨fu1, hf1⟩ := h1
  obtain ⟨cs1, rfl, _⟩ := okWide_struct Try.underlying29 (hval 1 29 v1 rfl rfl)
  obtain ⟨xx1, hk1, ww1⟩ := opn29 hf1
  obtain ⟨⟨a1_0_0, a1_0_1, a1_0_2, a1_0_3⟩, ⟨a1_1_0, a1_1_1, a1_1_2⟩, a1_2, a1_3, a1_4, a1_5⟩ := xx1
  obtain ⟨z1, hz1⟩ : ∃ z, z = (Value.agg cs1).cells.toList := ⟨_, rfl⟩
  rw [← hz1] at hk1
  obtain ⟨_, _, rfl, ⟨_, _, rfl, rfl, ⟨_, _, rfl, rfl, ⟨_, _, rfl, rfl, rfl⟩⟩⟩, ⟨_, _, rfl, ⟨_, _, rfl, rfl, ⟨_, _, rfl, rfl, rfl⟩⟩, ⟨_, _, rfl, rfl, ⟨_, _, rfl, rfl, ⟨_, _, rfl, rfl, rfl⟩⟩⟩⟩⟩ := hk1
  simp only [Value.cells, List.cons_append, List.nil_append] at hz1
  obtain rfl : cs1 = #[.int .i64 a1_0_0, .int .i64 a1_0_1, .int .i64 a1_0_2, .bool a1_0_3, .int .i64 a1_1_0, .int .i64 a1_1_1, .int .i64 a1_1_2, .int .i64 a1_2, .int .i64 a1_3, .int .u32 a1_4, .int .i64 a1_5] := by rw [← Array.toArray_toList (xs := cs1), ← hz1]
  obtain ⟨⟨w1_0_0, w1_0_1, w1_0_2, _⟩, ⟨w1_1_0, w1_1_1, w1_1_2⟩, w1_2, w1_3, w1_4, w1_5⟩ := ww1
  have kk2 := h2
  have lt2 : ∀ x ∈ p2, x.block < W.heap.size := by obtain ⟨m, hm⟩ := kk2; exact DataW.trod_lt m _ _ _ hm
  obtain ⟨a2, len2, cap2, rfl⟩ := okWide_slice Try.underlying67 (hval 2 67 v2 rfl rfl)
  obtain ⟨fu2, hf2⟩ := h2
  obtain ⟨l2, ⟨A2, c2, he2, hc2, hr2⟩, w2⟩ := opn67 hf2
  simp only [Value.cells, List.cons.injEq, and_true, Value.slice.injEq] at he2
  obtain ⟨rfl, rfl, rfl⟩ := he2
  clear hA0 hval0 hsz0
  refine (Ps.pathsPuts_walk W _ _ _ _ _ _ _ _ _ _ _ _ _ _ _ _ _ l2 hc0_0 hr0_0 w0_0 w0_1 w1_0_0 w1_0_1 w1_0_2 w1_1_0 w1_1_1 w1_1_2 w1_2 w1_3 w1_4 w1_5 hc2 hr2 w2).mono fun e W' ⟨he, bel⟩ => ?_
  subst he
  exact ⟨_, rfl, _, _, _, [], _, [], hW', trodAll_mk1 (shut_bool Try.underlying4 _), (trodAll_cons_mk (Below.trod laidOut (by kernel_rfl) (of_decide_eq_true (by kernel_rfl)) kk0 bel lt0) (trodAll_cons_mk (Below.trod laidOut (by kernel_rfl) (of_decide_eq_true (by kernel_rfl)) kk1 bel lt1) (trodAll_cons_mk (Below.trod laidOut (by kernel_rfl) (of_decide_eq_true (by kernel_rfl)) kk2 bel lt2) trodAll_mk0))), rfl, bel.frame _, fun h => by cases h⟩
theorem over : Rows.pathsPutsRow.holds Try.pinned (OpenSpec.ofChange Rows.pathsPutsSpec) :=
  OpenClaim.holds_of_wide 7 Try.f7 rfl rfl rfl rfl rfl rfl rfl ⟨rfl, rfl, rfl, rfl, rfl⟩ rfl rfl rfl rfl rfl (by kernel_rfl) Try.func7 (by kernel_rfl)
    (of_decide_eq_true (by kernel_rfl)) (by unfold Func.isWrapper; first | (rw [if_pos (by decide +kernel)]; kernel_rfl) | (rw [if_neg (by decide +kernel)]; exact ⟨rfl, rfl⟩))
    (fun os started H enc _ => lifted os started H enc)
end Go.Proofs.Ytblooffiggciiaa.pathsPuts
namespace Go.Proofs.Ytblooffiggciiaa
/-- The row, under a short name, for the claim. -/
theorem pathsPuts_holds : Rows.PathsPutsSaid := pathsPuts.over
#print axioms pathsPuts_holds
end Go.Proofs.Ytblooffiggciiaa
