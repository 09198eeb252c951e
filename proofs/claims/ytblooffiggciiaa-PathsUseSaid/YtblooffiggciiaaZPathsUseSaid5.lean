/- PathsUse: for every input the law returns true, and its arguments read as before: the row, out of the walk; no condition. -/
import Derived.Test.YtblooffiggciiaaZPathsUseSaid4
import Derived.ProofKit
import Derived.OpenShut
import Derived.Deep.Slices
import Derived.ChangeArms
import Derived.Test.YtblooffiggciiaaRows
import Derived.WalkKit
import Derived.ShutString
import Derived.ChangeOld
import Derived.Below
import Derived.SizedLaws
import Derived.Carry
/- PsAi -/
namespace Go.Proofs.Ytblooffiggciiaa.Ps
open Go.RowKit Go.Shelf Go.Sort Go.Proofs.Ytblooffiggciiaa.PPs Go.Proofs.YtblooffiggciiaaW.PrintWords Go.Proofs.YtblooffiggciiaaW.PrintLast Go.Proofs.YtblooffiggciiaaW.PrintMore Go.Proofs.Ytblooffiggciiaa.Sh
set_option linter.unusedVariables false
set_option linter.unusedSimpArgs false
attribute [local go_sem] Go.Proofs.Ytblooffiggciiaa.Aid.isSome_setCell
attribute [local go_sem] Oper.semAt_some wide_fn
/-- Blocks that are known. -/
def BL (L : List (Nat × Obj)) (W : World) : Prop := ∀ q ∈ L, W.heap[q.1]? = some q.2
theorem BL.get {L : List (Nat × Obj)} {W : World} (h : BL L W) (n : Nat) {g : Nat} {o : Obj} (hq : L[n]? = some (g, o)) : W.heap[g]? = some o := h (g, o) (List.mem_of_getElem? hq)
theorem BL.below {L : List (Nat × Obj)} {W W' : World} (h : BL L W) (hb : Below W.heap.size W W') : BL L W' := fun q hq => blk_below (h q hq) hb
theorem BL.nil (W : World) : BL [] W := fun q hq => absurd hq (by simp)
theorem BL.new {L : List (Nat × Obj)} {W : World} (h : BL L W) (o : Obj) : BL (L ++ [(W.heap.size, o)]) (W.alloc o) := fun q hq => by
  rcases List.mem_append.1 hq with hq | hq
  · exact blk_alloc (h q hq) o
  · rw [List.mem_singleton] at hq; subst hq; exact blk_new W o
theorem C_cv {w : World} {A : Option Addr} {n : Nat} {l : List S29} (h : Kd.C k29 w A n l) : Kd.C k34 w A n (l.map cv) := by
  obtain ⟨h1, h2, h3⟩ := h
  refine ⟨by rw [List.length_map]; exact h1, h2, fun h0 => ?_⟩
  obtain ⟨ad, e, hc⟩ := h3 h0
  refine ⟨ad, e, fun j p hp => ?_⟩
  rw [List.getElem?_map, Option.map_eq_some_iff] at hp
  obtain ⟨z, hz, rfl⟩ := hp
  obtain ⟨c, a1, a2, a3⟩ := hc j z hz
  exact ⟨c, a1, a2, a3⟩
def eqb (x y : S34) : Bool := !(df34 x y)
theorem eqb_iff (x y : S34) : eqb x y = true ↔ x = y := by unfold eqb; rw [Bool.not_eq_true', df34_iff]
theorem eqb_self (x : S34) : eqb x x = true := (eqb_iff x x).2 rfl
theorem eqC29 (d : Nat) (w : World) (x y : S34) :
    (Op.equalIn (d + 3) 29 (.agg #[.int .i64 x.f0.f0, .int .i64 x.f0.f1, .int .i64 x.f0.f2, .bool x.f0.f3, .int .i64 x.f1.f0, .int .i64 x.f1.f1, .int .i64 x.f1.f2, .int .i64 x.f2, .int .i64 x.f3, .int .u32 x.f4, .int .i64 x.f5]) (.agg #[.int .i64 y.f0.f0, .int .i64 y.f0.f1, .int .i64 y.f0.f2, .bool y.f0.f3, .int .i64 y.f1.f0, .int .i64 y.f1.f1, .int .i64 y.f1.f2, .int .i64 y.f2, .int .i64 y.f3, .int .u32 y.f4, .int .i64 y.f5])).run Try.prog w = .ok (eqb x y) w := by
  rw [eqA29]
  congr 1
  unfold eqb df34
  simp only [Bool.not_or, Bool.not_not]
attribute [local go_sem high] eqC29
theorem wp_cap {P : Program} {code : Code} {Q : Exit → Act → World → Prop} {T : Array Value} {w : World} (h : ∀ T', Aside0 (T' = T) → code.wp P Q { tmps := T', defers := [] } w) : code.wp P Q { tmps := T, defers := [] } w := h T ⟨rfl⟩
theorem use_true {l : List S34} {p : Int} (h : gdb l p = true) : (useL l p).2 = none := by
  unfold useL; rw [if_pos h]; split <;> rfl
theorem use_false {l : List S34} {p : Int} (h : gdb l p = false) : (useL l p).2 = some 1 := by
  unfold useL; rw [if_neg (by rw [h]; simp)]
theorem again_true {l : List S34} {p : Int} (a : Int) (h : gdb l p = true) : (againL l p a).2 = none := by
  unfold againL
  split
  · rfl
  · exact use_true h
theorem again_false {l : List S34} {p : Int} (a : Int) (h : gdb l p = false) : (againL l p a).2 = some 1 := by
  unfold againL fnd
  rw [if_neg (by rw [h]; simp)]
  exact use_false h
theorem blk_regrown {w : World} {g : Nat} {o : Obj} (h : w.heap[g]? = some o) (d : Nat) (os : Array Obj) : (grow (redrawn w d) os).heap[g]? = some o := ((below_regrown w d os).block g (blk_lt h)).trans h
def onlyN (Q : Exit → Act → World → Prop) : Exit → Act → World → Prop
  | .normal, a, w => Q .normal a w
  | _, _, _ => False
theorem onlyN_intro {Q : Exit → Act → World → Prop} {a : Act} {w : World} (h : Q .normal a w) : onlyN Q .normal a w := h
theorem wp_normal {P : Program} {code : Code} {Q : Exit → Act → World → Prop} {a : Act} {w : World} (h : code.wp P (onlyN Q) a w) : code.wp P Q a w :=
  Code.wp_mono (fun e a' w' hq => by cases e <;> first | exact hq | exact hq.elim) h
theorem results_bool {fn : Func} {p : Tmp} (h : fn.results = #[.cell p 4]) (tmps : Array Value) (w : World) (g : Nat) (b : Bool) (hp : tmps.getD p undef = .pointer (some ⟨g, 0, none⟩)) (hg : w.heap[g]? = some (.cells #[.bool b] 4 (0, 0))) : (results fn tmps).run Try.prog w = .ok (.bool b) w := by
  have hp' : tmps[p]?.getD undef = .pointer (some ⟨g, 0, none⟩) := by simpa using hp
  have hc := cc1 hg
  simp only [results, h]
  go_simp
theorem is_calls (w : World) : Calls Try.prog 15 #[.iface 42 (.int .i64 1), .int .i64 1] w fun e w' => e = .returned (.bool true) ∧ Below w.heap.size w w' :=
  (weftlinenum_Is.calls (some 1) 1 true w rfl).mono fun e w' ⟨h1, n, h2⟩ => ⟨h1, by rw [h2]; exact pw_below_drewN (Below.refl _ _) n⟩
def useR.T20 : Bool × List (List Nat × List Nat) := (true, [([], []), ([], []), ([1], [1]), ([0, 2], [0, 2]), ([3], [3]), ([4], [4]), ([4], [4]), ([6, 4], [4, 6]), ([5, 7, 4], [4, 5, 7]), ([4, 8], [4, 8]), ([9, 4], [9]), ([10], [10]), ([11, 10, 10], [10, 11]), ([12], [12]), ([13, 12, 12], [12, 13]), ([14, 14, 12], [12, 14]), ([15], [15]), ([16, 15, 15], [15, 16]), ([15, 17, 12], [12, 15, 17]), ([12, 18, 10], [10, 12, 18]), ([10, 19], [10, 19]), ([20, 17], [20]), ([21], [21]), ([22, 21, 21], [21, 22]), ([21], [21]), ([23, 24, 21], [21, 23, 24]), ([21, 25], [21, 25]), ([26, 23], [26]), ([27], [27]), ([28, 27, 27], [27, 28]), ([27], [27]), ([29, 30, 27], [27, 29, 30]), ([27, 31], [27, 31]), ([32, 29], [32]), ([33], [33]), ([34, 33, 33], [33, 34]), ([33], [33]), ([35, 36, 33], [33, 35, 36]), ([33, 37], [33, 37]), ([38, 35], [38]), ([39], [39]), ([39], [39]), ([40, 41, 39], [39, 40, 41]), ([39, 42], [39, 42]), ([43, 39], [43]), ([44], [44]), ([45, 44, 44], [44, 45]), ([44], [44]), ([47, 46, 44], [44, 47]), ([46, 48, 44], [44, 46, 48]), ([44, 49], [44, 49]), ([50, 48, 0, 1, 2, 3, 4, 5, 6, 7, 8, 9, 10, 11, 12, 13, 14, 15, 16, 17, 18, 19, 20, 21, 22, 23, 24, 25, 26, 27, 28, 29, 30, 31, 32, 33, 34, 35, 36, 37, 38, 39, 40, 41, 42, 43, 44, 45, 46, 47, 48, 49, 50], [50])])
def useR.B20 : List Nat := [0, 0, 2, 7, 15, 31, 31, 95, 255, 511, 1023, 2047, 4095, 8191, 16383, 32767, 65535, 131071, 262143, 524287, 1048575, 2097151, 4194303, 8388607, 4194303, 33554431, 67108863, 134217727, 268435455, 536870911, 268435455, 2147483647, 4294967295, 8589934591, 17179869183, 34359738367, 17179869183, 137438953471, 274877906943, 549755813887, 1099511627775, 1099511627775, 4398046511103, 8796093022207, 17592186044415, 35184372088831, 70368744177663, 35184372088831, 281474976710655, 562949953421311, 1125899906842623, 2251799813685247]
theorem useR.tab20 : rtab .any (opsOf Try.f8 20) = useR.T20 := by kernel_rfl
theorem useR.bits20 : waitsOk useR.T20.2 useR.B20 = true := by kernel_rfl
set_option maxHeartbeats 8000000 in
set_option maxRecDepth 100000 in
theorem use_in_true {w : World} {A : Option Addr} {c : Nat} {l : List S29} (hC : Kd.C k29 w A l.length l) (hcc : l.length ≤ c) (hl : l.length ≤ 10) (p a : Int) (hgd : gdb (l.map cv) p = true) :
    Calls Try.prog 8 #[.agg #[.slice A l.length c, .int .i64 p], .int .i64 a] w fun e w' => e = .returned (.bool true) ∧ Below w.heap.size w w' := by
  obtain ⟨g, hg⟩ : ∃ g, g = w.heap.size := ⟨_, rfl⟩
  have hB := b1 (b1 (Below.refl w.heap.size w) (.cells #[.slice A l.length c, .int .i64 p] 66)) (.cells #[.bool false] 4)
  have hL := ((BL.nil w).new (.cells #[.slice A l.length c, .int .i64 p] 66)).new (.cells #[.bool false] 4)
  rw [sz1, ← hg] at hL
  have HG := Aside0.mk hg
  have HC := Aside0.mk hC
  have HGD0 := Aside0.mk hgd
  clear hgd
  have hl2 : (l.length : Int) ≤ 10 := by omega
  have HA := Aside0.mk (alive_calls ((w.alloc (.cells #[.slice A l.length c, .int .i64 p] 66)).alloc (.cells #[.bool false] 4)))
  have HB := Aside0.mk hB
  have HL := Aside0.mk hL
  clear hg hC hB hL
  refine (callsIn_wide (n := 10)).1 ?_
  refine callsIn_of_wp_marks Try.func8 rfl (by trivial) ?_ rfl
  refine wpIn_wide.2 ?_
  simp only [Try.ntmps8, List.size_toArray, List.length_cons, List.length_nil, Nat.reduceAdd, Nat.reduceSub, Array.replicate_succ, Array.replicate_zero, List.push_toArray, List.append_toArray, List.nil_append, List.cons_append]
  go_wp2_with fail
  refine HA.out.mono ?_
  rw [← HG.out]
  rintro e w1 ⟨rfl, hb⟩
  have HL1 := Aside0.mk (HL.out.below hb)
  have HB1 := Aside0.mk (below_step HB.out hb)
  clear hb
  have hx := ck2 (HL1.out.get 0 rfl)
  have HP := Aside0.mk (program_calls (w := w1) (Kd.C_below HC.out HB1.out) hcc (by omega) p)
  go_wp2_with fail
  refine HP.out.mono ?_
  rintro e w2 ⟨v, rfl, hR, hb⟩
  obtain ⟨A2, c2, rfl⟩ := Kd.R_slice hR
  have hlm : (l.map cv).length = l.length := List.length_map ..
  have HP1 := Aside0.mk (Kd.R_reads' hR).2.1
  have hP2 := (Kd.R_reads' hR).2.2
  obtain ⟨L, hL⟩ : ∃ L, L = l.map cv := ⟨_, rfl⟩
  rw [← hL] at hlm HP1 hP2 ⊢
  have HLe := Aside0.mk hL
  have HLl := Aside0.mk hlm
  have hL10 : L.length ≤ 1000 := by omega
  rw [hlm] at HP1 hP2 ⊢
  have HB2 := Aside0.mk (b1 (below_step HB1.out hb) (.cells #[.slice A2 l.length c2, .int .i64 p] 70))
  have HL2 := Aside0.mk ((HL1.out.below hb).new (.cells #[.slice A2 l.length c2, .int .i64 p] 70))
  have HX2 := Aside0.mk (Kd.C_alloc hP2 (.cells #[.slice A2 l.length c2, .int .i64 p] 70))
  have HX2' := Aside0.mk (show Kd.C k34 (w2.alloc (.cells #[.slice A2 l.length c2, .int .i64 p] 70)) A2 L.length L by rw [hlm]; exact HX2.out)
  have HXc := Aside0.mk (show L.length ≤ c2 by rw [hlm]; exact HP1.out)
  clear hb hR hx hL hP2
  obtain ⟨u, hu⟩ : ∃ u, u = useL L p := ⟨_, rfl⟩
  obtain ⟨v, hv⟩ : ∃ v, v = againL L p a := ⟨_, rfl⟩
  obtain ⟨x, hx0⟩ : ∃ x, x = getL L p a := ⟨_, rfl⟩
  have HU := Aside0.mk hu
  have HV := Aside0.mk hv
  have HX0 := Aside0.mk hx0
  clear hu hv hx0
  have hx := ck2 (HL2.out.get 2 rfl)
  have HK := use_calls (c := c2) HX2'.out p hL10
  rw [← HU.out, hlm] at HK
  have HK := Aside0.mk HK
  go_wp2_with fail
  refine HK.out.mono ?_
  rintro e w3 ⟨rfl, hb⟩
  have HL3 := Aside0.mk ((HL2.out.below hb).new (.cells #[.int .i64 u.1.f0.f0, .int .i64 u.1.f0.f1, .int .i64 u.1.f0.f2, .bool u.1.f0.f3, .int .i64 u.1.f1.f0, .int .i64 u.1.f1.f1, .int .i64 u.1.f1.f2, .int .i64 u.1.f2, .int .i64 u.1.f3, .int .u32 u.1.f4, .int .i64 u.1.f5] 34))
  have HB3 := Aside0.mk (b1 (below_step HB2.out hb) (.cells #[.int .i64 u.1.f0.f0, .int .i64 u.1.f0.f1, .int .i64 u.1.f0.f2, .bool u.1.f0.f3, .int .i64 u.1.f1.f0, .int .i64 u.1.f1.f1, .int .i64 u.1.f1.f2, .int .i64 u.1.f2, .int .i64 u.1.f3, .int .u32 u.1.f4, .int .i64 u.1.f5] 34))
  have HX3' := Aside0.mk (Kd.C_alloc (Kd.C_below HX2'.out hb) (.cells #[.int .i64 u.1.f0.f0, .int .i64 u.1.f0.f1, .int .i64 u.1.f0.f2, .bool u.1.f0.f3, .int .i64 u.1.f1.f0, .int .i64 u.1.f1.f1, .int .i64 u.1.f1.f2, .int .i64 u.1.f2, .int .i64 u.1.f3, .int .u32 u.1.f4, .int .i64 u.1.f5] 34))
  clear hb hx HK HL2 HB2 HX2'
  unfold cs34
  have hx := ck2 (HL3.out.get 2 rfl)
  have HK := again_calls (c := c2) HX3'.out p a hL10
  rw [← HV.out, hlm] at HK
  have HK := Aside0.mk HK
  go_wp2_with fail
  refine HK.out.mono ?_
  rintro e w4 ⟨rfl, hb⟩
  have HL4 := Aside0.mk ((HL3.out.below hb).new (.cells #[.int .i64 v.1.f0.f0, .int .i64 v.1.f0.f1, .int .i64 v.1.f0.f2, .bool v.1.f0.f3, .int .i64 v.1.f1.f0, .int .i64 v.1.f1.f1, .int .i64 v.1.f1.f2, .int .i64 v.1.f2, .int .i64 v.1.f3, .int .u32 v.1.f4, .int .i64 v.1.f5] 34))
  have HB4 := Aside0.mk (b1 (below_step HB3.out hb) (.cells #[.int .i64 v.1.f0.f0, .int .i64 v.1.f0.f1, .int .i64 v.1.f0.f2, .bool v.1.f0.f3, .int .i64 v.1.f1.f0, .int .i64 v.1.f1.f1, .int .i64 v.1.f1.f2, .int .i64 v.1.f2, .int .i64 v.1.f3, .int .u32 v.1.f4, .int .i64 v.1.f5] 34))
  have HX4' := Aside0.mk (Kd.C_alloc (Kd.C_below HX3'.out hb) (.cells #[.int .i64 v.1.f0.f0, .int .i64 v.1.f0.f1, .int .i64 v.1.f0.f2, .bool v.1.f0.f3, .int .i64 v.1.f1.f0, .int .i64 v.1.f1.f1, .int .i64 v.1.f1.f2, .int .i64 v.1.f2, .int .i64 v.1.f3, .int .u32 v.1.f4, .int .i64 v.1.f5] 34))
  clear hb hx HK HL3 HB3 HX3'
  unfold cs34
  have hx := ck2 (HL4.out.get 2 rfl)
  have HK := get_calls (c := c2) HX4'.out p a
  rw [← HX0.out, hlm] at HK
  have HK := Aside0.mk HK
  go_wp2_with fail
  refine HK.out.mono ?_
  rintro e w5 ⟨rfl, hb⟩
  have HL5 := Aside0.mk ((HL4.out.below hb).new (.cells #[.int .i64 x.1.f0.f0, .int .i64 x.1.f0.f1, .int .i64 x.1.f0.f2, .bool x.1.f0.f3, .int .i64 x.1.f1.f0, .int .i64 x.1.f1.f1, .int .i64 x.1.f1.f2, .int .i64 x.1.f2, .int .i64 x.1.f3, .int .u32 x.1.f4, .int .i64 x.1.f5] 34))
  have HB5 := Aside0.mk (b1 (below_step HB4.out hb) (.cells #[.int .i64 x.1.f0.f0, .int .i64 x.1.f0.f1, .int .i64 x.1.f0.f2, .bool x.1.f0.f3, .int .i64 x.1.f1.f0, .int .i64 x.1.f1.f1, .int .i64 x.1.f1.f2, .int .i64 x.1.f2, .int .i64 x.1.f3, .int .u32 x.1.f4, .int .i64 x.1.f5] 34))
  have HX5' := Aside0.mk (Kd.C_alloc (Kd.C_below HX4'.out hb) (.cells #[.int .i64 x.1.f0.f0, .int .i64 x.1.f0.f1, .int .i64 x.1.f0.f2, .bool x.1.f0.f3, .int .i64 x.1.f1.f0, .int .i64 x.1.f1.f1, .int .i64 x.1.f1.f2, .int .i64 x.1.f2, .int .i64 x.1.f3, .int .u32 x.1.f4, .int .i64 x.1.f5] 34))
  clear hb hx HK HL4 HB4 HX4'
  unfold cs34
  have hx := ck2 (HL5.out.get 0 rfl)
  have HK := ruse_calls (Kd.C_below HC.out HB5.out) hcc (by omega) p
  rw [← HLe.out, ← HU.out] at HK
  have HK := Aside0.mk HK
  go_wp2_with fail
  refine HK.out.mono ?_
  rintro e w6 ⟨rfl, hb⟩
  have HL6 := Aside0.mk ((HL5.out.below hb).new (.cells #[.int .i64 u.1.f0.f0, .int .i64 u.1.f0.f1, .int .i64 u.1.f0.f2, .bool u.1.f0.f3, .int .i64 u.1.f1.f0, .int .i64 u.1.f1.f1, .int .i64 u.1.f1.f2, .int .i64 u.1.f2, .int .i64 u.1.f3, .int .u32 u.1.f4, .int .i64 u.1.f5] 29))
  have HB6 := Aside0.mk (b1 (below_step HB5.out hb) (.cells #[.int .i64 u.1.f0.f0, .int .i64 u.1.f0.f1, .int .i64 u.1.f0.f2, .bool u.1.f0.f3, .int .i64 u.1.f1.f0, .int .i64 u.1.f1.f1, .int .i64 u.1.f1.f2, .int .i64 u.1.f2, .int .i64 u.1.f3, .int .u32 u.1.f4, .int .i64 u.1.f5] 29))
  have HX6' := Aside0.mk (Kd.C_alloc (Kd.C_below HX5'.out hb) (.cells #[.int .i64 u.1.f0.f0, .int .i64 u.1.f0.f1, .int .i64 u.1.f0.f2, .bool u.1.f0.f3, .int .i64 u.1.f1.f0, .int .i64 u.1.f1.f1, .int .i64 u.1.f1.f2, .int .i64 u.1.f2, .int .i64 u.1.f3, .int .u32 u.1.f4, .int .i64 u.1.f5] 29))
  clear hb hx HK HL5 HB5 HX5'
  unfold cs34
  have hx := ck2 (HL6.out.get 0 rfl)
  have HK := ragain_calls (Kd.C_below HC.out HB6.out) hcc (by omega) p a
  rw [← HLe.out, ← HV.out] at HK
  have HK := Aside0.mk HK
  go_wp2_with fail
  refine HK.out.mono ?_
  rintro e w7 ⟨rfl, hb⟩
  have HL7 := Aside0.mk ((HL6.out.below hb).new (.cells #[.int .i64 v.1.f0.f0, .int .i64 v.1.f0.f1, .int .i64 v.1.f0.f2, .bool v.1.f0.f3, .int .i64 v.1.f1.f0, .int .i64 v.1.f1.f1, .int .i64 v.1.f1.f2, .int .i64 v.1.f2, .int .i64 v.1.f3, .int .u32 v.1.f4, .int .i64 v.1.f5] 29))
  have HB7 := Aside0.mk (b1 (below_step HB6.out hb) (.cells #[.int .i64 v.1.f0.f0, .int .i64 v.1.f0.f1, .int .i64 v.1.f0.f2, .bool v.1.f0.f3, .int .i64 v.1.f1.f0, .int .i64 v.1.f1.f1, .int .i64 v.1.f1.f2, .int .i64 v.1.f2, .int .i64 v.1.f3, .int .u32 v.1.f4, .int .i64 v.1.f5] 29))
  have HX7' := Aside0.mk (Kd.C_alloc (Kd.C_below HX6'.out hb) (.cells #[.int .i64 v.1.f0.f0, .int .i64 v.1.f0.f1, .int .i64 v.1.f0.f2, .bool v.1.f0.f3, .int .i64 v.1.f1.f0, .int .i64 v.1.f1.f1, .int .i64 v.1.f1.f2, .int .i64 v.1.f2, .int .i64 v.1.f3, .int .u32 v.1.f4, .int .i64 v.1.f5] 29))
  clear hb hx HK HL6 HB6 HX6'
  unfold cs34
  have hx := ck2 (HL7.out.get 0 rfl)
  have HK := rget_calls (Kd.C_below HC.out HB7.out) hcc (by omega) p a
  rw [← HLe.out, ← HX0.out] at HK
  have HK := Aside0.mk HK
  go_wp2_with fail
  refine HK.out.mono ?_
  rintro e w8 ⟨rfl, hb⟩
  have HL8 := Aside0.mk ((HL7.out.below hb).new (.cells #[.int .i64 x.1.f0.f0, .int .i64 x.1.f0.f1, .int .i64 x.1.f0.f2, .bool x.1.f0.f3, .int .i64 x.1.f1.f0, .int .i64 x.1.f1.f1, .int .i64 x.1.f1.f2, .int .i64 x.1.f2, .int .i64 x.1.f3, .int .u32 x.1.f4, .int .i64 x.1.f5] 29))
  have HB8 := Aside0.mk (b1 (below_step HB7.out hb) (.cells #[.int .i64 x.1.f0.f0, .int .i64 x.1.f0.f1, .int .i64 x.1.f0.f2, .bool x.1.f0.f3, .int .i64 x.1.f1.f0, .int .i64 x.1.f1.f1, .int .i64 x.1.f1.f2, .int .i64 x.1.f2, .int .i64 x.1.f3, .int .u32 x.1.f4, .int .i64 x.1.f5] 29))
  have HX8' := Aside0.mk (Kd.C_alloc (Kd.C_below HX7'.out hb) (.cells #[.int .i64 x.1.f0.f0, .int .i64 x.1.f0.f1, .int .i64 x.1.f0.f2, .bool x.1.f0.f3, .int .i64 x.1.f1.f0, .int .i64 x.1.f1.f1, .int .i64 x.1.f1.f2, .int .i64 x.1.f2, .int .i64 x.1.f3, .int .u32 x.1.f4, .int .i64 x.1.f5] 29))
  clear hb hx HK HL7 HB7 HX7'
  unfold cs34
  have hx := ck2 (HL8.out.get 2 rfl)
  obtain ⟨Wp, hWp⟩ : ∃ Wp, Wp = w8.alloc (.cells #[.int .i64 x.1.f0.f0, .int .i64 x.1.f0.f1, .int .i64 x.1.f0.f2, .bool x.1.f0.f3, .int .i64 x.1.f1.f0, .int .i64 x.1.f1.f1, .int .i64 x.1.f1.f2, .int .i64 x.1.f2, .int .i64 x.1.f3, .int .u32 x.1.f4, .int .i64 x.1.f5] 29) := ⟨_, rfl⟩
  rw [← hWp] at HL8 HB8 HX8' hx
  have HWp := Aside0.mk hWp
  clear hWp
  have HAl := all_calls (w := Wp.alloc (.cells #[.int .i64 0] 3)) (c := c2) (Kd.C_alloc HX8'.out _) HXc.out hL10 p
  rw [hlm, HWp.out] at HAl
  have hx2 := ck2 (blk_alloc (HL8.out.get 2 rfl) (.cells #[.int .i64 0] 3))
  rw [HWp.out] at hx2
  have HAl := Aside0.mk HAl
  clear hx
  go_wp2_with (first | (go_at_call 51; refine HAl.out.mono ?_; rintro e w9 ⟨Bs, gb, A9, c9, rfl, hbx⟩; have HBX := Aside0.mk hbx; clear hbx))
  obtain ⟨m, hm⟩ : ∃ m, m = w8.heap.size + 1 := ⟨_, rfl⟩
  have HM := Aside0.mk (show m = Wp.heap.size by rw [HWp.out, sz1]; exact hm)
  rw [← hm]
  clear hm hx2
  rw [← HWp.out] at HBX
  have hwm : w.heap.size ≤ m := by rw [HM.out]; exact HB8.out.size
  have hBs := HBX.out.hBs
  have hgb := HBX.out.hgb
  rw [sz1, ← HM.out] at hBs hgb
  have hBl := blk_lt HBX.out.box
  have hgl : gb < w9.heap.size := by obtain ⟨cs, t, h⟩ := HBX.out.gcell; exact blk_lt h
  have hm9 : m ≤ w9.heap.size := by omega
  have hctr : w9.heap[m]? = some (.cells #[.int .i64 ((([] : List S34).length : Nat) : Int)] 3 (0, 0)) := by
    have h := blk_below (blk_new Wp (.cells #[.int .i64 0] 3)) HBX.out.bel
    rw [← HM.out] at h
    exact h
  have hm10 := blk_lt hctr
  have hb9 : Below m Wp w9 := by
    rw [HM.out]
    exact (b1 (Below.refl Wp.heap.size Wp) (.cells #[.int .i64 0] 3)).trans (HBX.out.bel.mono (by rw [sz1]; exact Nat.le_succ _))
  obtain ⟨xs, hxs⟩ : ∃ xs, xs = allL L p := ⟨_, rfl⟩
  have hxl : xs.length ≤ l.length := by rw [hxs]; unfold allL; split; rw [hlm]; exact Nat.le_refl _; exact Nat.zero_le _
  rw [← hxs] at HBX
  have HXS := Aside0.mk hxs
  have HGD := HGD0
  rw [← HLe.out] at HGD
  clear hxs
  refine wp_cap fun T hT => ?_
  refine (wpIn_wide (n := 10)).1 ?_
  refine wpIn_rangeFunc_ownH (n := 10) rfl (by decide) (gf := 100) (lb := #[.pointer (some ⟨Bs, 0, none⟩)]) (by rw [hT.out]; rfl) (by trivial) (enters_of Try.func100 (by kernel_rfl) rfl)
    (values_stops 9 (by decide) (n₀ := m) HBX.out.box HBX.out.held hm9 (by omega))
    (fun h h' => Kp2.trans h h') (fun W l o o' hle ho hc hw => ⟨belowK_b (w := w9) hm9 W l o o' hle ho hc hw, World.putObj_heap_other (by omega), World.putObj_heap_other (by omega)⟩) (Below.refl _ _) (fun _ => rfl)
    (fun pre W => ((pre = L.take pre.length ∧ W.heap[m]? = some (.cells #[.int .i64 ((pre.length : Nat) : Int)] 3 (0, 0))) ∧ w9.heap.size ≤ W.heap.size) ∧ Below m Wp W)
    (fun e pre W => ∃ (ys : List S34) (y : S34), pre = ys ++ [y] ∧ ys.length < L.length ∧ y ≠ L.getD ys.length z34)
    (OwnFrom.and (fun s A B row hs hg hr => ⟨⟨hs.1.1, gb_blk hg hs.1.2 (fun e => by have := (hr _ e.symm).1; omega)⟩, Nat.le_trans hs.2 hg.size⟩) (ownFrom_below (Nat.le_of_eq HM.out) (by omega)))
    (fun e => fun s A B row hs hg hr => hs)
    ⟨⟨⟨rfl, hctr⟩, Nat.le_refl _⟩, hb9⟩
    (fun x a' W => ∃ B, w9.heap.size ≤ B ∧ a' = ({ tmps := (T.setIfInBounds 64 (.agg (cs34 x).toArray)).setIfInBounds 19 (.pointer (some ⟨B, 0, none⟩)), defers := [] } : Act) ∧ W.heap[B]? = some (.cells (cs34 x).toArray 34 (0, 0)))
    (fun x a' => fun s A B row hs hg hr => by obtain ⟨D, h1, h2, h3⟩ := hs; exact ⟨D, h1, h2, gb_blk hg h3 (fun e => by obtain ⟨_, o, ho, hc⟩ := hr _ e.symm; rw [h3] at ho; injection ho with ho; subst ho; exact Bool.noConfusion (show true = false from hc))⟩)
    ?assign ?body ?done ?stop
  case assign =>
    intro l2 pre x W K hI hK
    have hs := hI.1.2
    have hgs : m ≤ W.heap.size := by omega
    have ha : Below W.heap.size W (W.alloc (.cells (cs34 x).toArray 34)) := b1 (Below.refl _ _) _
    have HK := Aside0.mk (hK _ _ (KeepsFrom.of_grownBy (World.grownBy_alloc W _ none) (fun _ e => by cases e)) ⟨ha.mono hgs, Below.heap_alloc W _ Bs (by omega), Below.heap_alloc W _ gb (by omega)⟩ ⟨⟨⟨hI.1.1.1, blk_alloc hI.1.1.2 _⟩, by rw [sz1]; omega⟩, hI.2.trans (ha.mono hgs)⟩ ⟨W.heap.size, hs, rfl, blk_new W _⟩)
    clear hK ha
    rw [hT.out] at HK ⊢
    unfold cs34 at HK ⊢
    simp only [List.setIfInBounds_toArray, List.set_cons_zero, List.set_cons_succ] at HK
    gi_wp2
    exact HK.out
  case body =>
    rintro l2 pre x a' W hl2 ⟨r, hr⟩ hI ⟨D, hD, rfl, hP⟩ hpl
    have hgs : m ≤ W.heap.size := by have := hI.1.2; omega
    have HWB := Aside0.mk (show Below Wp.heap.size Wp W by rw [← HM.out]; exact hI.2)
    have HLW := Aside0.mk (HL8.out.below HWB.out)
    have HCW := Aside0.mk (show Kd.C k34 W A L.length L by
      have h := C_cv (Kd.C_below HC.out (HB8.out.trans (HWB.out.mono HB8.out.size)))
      rw [← HLe.out] at h
      rw [hlm]
      exact h)
    have HBC := Aside0.mk hI.1.1.2
    have HPP := Aside0.mk hP
    obtain ⟨n, hn⟩ : ∃ n, n = pre.length := ⟨_, rfl⟩
    have hnl : n < l.length := by omega
    rw [← hn] at HBC
    obtain ⟨ad, rfl, h0, h1, h2, h3, h4, h5, h6, h7, h8, h9, h10⟩ := at_T34 HCW.out (n : Int) (by omega) (by omega)
    obtain ⟨z, hz⟩ : ∃ z, z = rd_T34 L (n : Int) := ⟨_, rfl⟩
    rw [← hz] at h0 h1 h2 h3 h4 h5 h6 h7 h8 h9 h10
    have HZ := Aside0.mk (show L.getD pre.length z34 = z by rw [hz, ← hn]; unfold rd_T34; rw [Int.toNat_natCast])
    have HZ2 := Aside0.mk (show L.take (pre.length + 1) = L.take pre.length ++ [z] by
      rw [List.take_succ_eq_append_getElem (by omega), hz, rd34 L n (by omega)]
      simp only [hn])
    rw [Int.toNat_natCast] at h0 h1 h2 h3 h4 h5 h6 h7 h8 h9 h10
    have HA := Aside0.mk (fun W => d13_calls (w := W) x)
    have hlt : (n : Int) < (l.length : Int) := by omega
    have hge : decide ((l.length : Int) ≤ (n : Int)) = false := decide_eq_false (by omega)
    have hge2 : ¬ ((l.length : Int) ≤ (n : Int)) := by omega
    have hx := ck2 (HLW.out.get 0 rfl)
    have hr1 := cc1 (HLW.out.get 1 rfl)
    have hc := cc1 HBC.out
    have HN := Aside0.mk hn
    have HII := Aside0.mk hI
    unfold cs34 at hP HA HPP ⊢
    have hp := ck11 hP
    clear hz hn hI hP
    rw [hT.out]
    simp only [List.setIfInBounds_toArray, List.set_cons_zero, List.set_cons_succ]
    obtain ⟨b, hb⟩ : ∃ b, b = eqb x z := ⟨_, rfl⟩
    cases b with
    | true =>
      have HXZ := Aside0.mk ((eqb_iff x z).1 hb.symm)
      have hq : eqb x z = true := hb.symm
      clear hb
      gi_wp2
      have k1 := cell_regrown hx.1
      have k2 := cell_regrown hc.1
      have k3 := cell_regrown h0
      have k4 := cell_regrown h1
      have k5 := cell_regrown h2
      have k6 := cell_regrown h3
      have k7 := cell_regrown h4
      have k8 := cell_regrown h5
      have k9 := cell_regrown h6
      have k10 := cell_regrown h7
      have k11 := cell_regrown h8
      have k12 := cell_regrown h9
      have k13 := cell_regrown h10
      have k14 := cell_regrown hp.1
      have k15 := cell_regrown hp.2.1
      have k16 := cell_regrown hp.2.2.1
      have k17 := cell_regrown hp.2.2.2.1
      have k18 := cell_regrown hp.2.2.2.2.1
      have k19 := cell_regrown hp.2.2.2.2.2.1
      have k20 := cell_regrown hp.2.2.2.2.2.2.1
      have k21 := cell_regrown hp.2.2.2.2.2.2.2.1
      have k22 := cell_regrown hp.2.2.2.2.2.2.2.2.1
      have k23 := cell_regrown hp.2.2.2.2.2.2.2.2.2.1
      have k24 := cell_regrown hp.2.2.2.2.2.2.2.2.2.2
      refine round_quiet (by kernel_rfl) (by kernel_rfl) (by kernel_rfl) ?_
      repeat (quiet_step_in (first | exact CallsIn.regrown_of (callsIn_wide.2 (HA.out _))))
      refine wpQuietIn_nil ?_
      intro _ hw'
      obtain ⟨⟨dq, osq⟩, hw''⟩ := hw'
      subst hw''
      have hgr := below_regrown W dq osq
      obtain ⟨W7, hW7⟩ : ∃ W7, W7 = grow (redrawn W dq) osq := ⟨_, rfl⟩
      rw [← hW7] at hgr ⊢
      clear hW7 k1 k2 k3 k4 k5 k6 k7 k8 k9 k10 k11 k12 k13 k14 k15 k16 k17 k18 k19 k20 k21 k22 k23 k24 hx hr1 hc hp h0 h1 h2 h3 h4 h5 h6 h7 h8 h9 h10
      have HB7 := Aside0.mk hgr
      have BC7 := Aside0.mk (blk_below HBC.out hgr)
      have hc := cc1 BC7.out
      have hr1 := cc1 ((HLW.out.below hgr).get 1 rfl)
      clear hgr
      gi_wp2
      have hz7 := HB7.out.size
      have hz8 := HII.out.1.2
      have hst : ∀ (v : Value) k, k ≠ m → ((W7.setCell ⟨m, 0, none⟩ v).heap[k]? = W7.heap[k]?) := fun v k hk => Below.heap_setCell _ _ _ k hk
      refine ⟨kf_set (kf_below _ HB7.out) (by show m < _; omega) _, ⟨(HB7.out.mono hgs).setCell (Nat.le_refl m) _, (hst _ Bs (by omega)).trans (HB7.out.block Bs (by omega)), (hst _ gb (by omega)).trans (HB7.out.block gb (by omega))⟩, ⟨⟨⟨?_, ?_⟩, ?_⟩, (HII.out.2.trans (HB7.out.mono hgs)).setCell (Nat.le_refl m) _⟩⟩
      · have e : (pre ++ [x]).length = pre.length + 1 := by simp
        rw [e, HZ2.out, HXZ.out, ← HII.out.1.1.1]
      · refine (blk_put BC7.out 0 _ rfl).trans ?_
        have e : (pre ++ [x]).length = n + 1 := by rw [HN.out]; simp
        rw [e]
        rfl
      · have := HII.out.1.2
        simpa [World.setCell] using Nat.le_trans this hz7
    | false =>
      have HXZ := Aside0.mk (show ¬ x = z from fun h => by rw [(eqb_iff x z).2 h] at hb; exact Bool.noConfusion hb)
      have hq : eqb x z = false := hb.symm
      clear hb
      gi_wp2
      have k1 := cell_regrown hx.1
      have k2 := cell_regrown hc.1
      have k3 := cell_regrown h0
      have k4 := cell_regrown h1
      have k5 := cell_regrown h2
      have k6 := cell_regrown h3
      have k7 := cell_regrown h4
      have k8 := cell_regrown h5
      have k9 := cell_regrown h6
      have k10 := cell_regrown h7
      have k11 := cell_regrown h8
      have k12 := cell_regrown h9
      have k13 := cell_regrown h10
      have k14 := cell_regrown hp.1
      have k15 := cell_regrown hp.2.1
      have k16 := cell_regrown hp.2.2.1
      have k17 := cell_regrown hp.2.2.2.1
      have k18 := cell_regrown hp.2.2.2.2.1
      have k19 := cell_regrown hp.2.2.2.2.2.1
      have k20 := cell_regrown hp.2.2.2.2.2.2.1
      have k21 := cell_regrown hp.2.2.2.2.2.2.2.1
      have k22 := cell_regrown hp.2.2.2.2.2.2.2.2.1
      have k23 := cell_regrown hp.2.2.2.2.2.2.2.2.2.1
      have k24 := cell_regrown hp.2.2.2.2.2.2.2.2.2.2
      refine round_quiet (by kernel_rfl) (by kernel_rfl) (by kernel_rfl) ?_
      repeat (quiet_step_in (first | exact CallsIn.regrown_of (callsIn_wide.2 (HA.out _))))
      refine wpQuietIn_nil ?_
      intro _ hw'
      obtain ⟨⟨dq, osq⟩, hw''⟩ := hw'
      subst hw''
      have hgr := below_regrown W dq osq
      obtain ⟨W7, hW7⟩ : ∃ W7, W7 = grow (redrawn W dq) osq := ⟨_, rfl⟩
      rw [← hW7] at hgr ⊢
      clear hW7 k1 k2 k3 k4 k5 k6 k7 k8 k9 k10 k11 k12 k13 k14 k15 k16 k17 k18 k19 k20 k21 k22 k23 k24 hx hr1 hc hp h0 h1 h2 h3 h4 h5 h6 h7 h8 h9 h10
      have HB7 := Aside0.mk hgr
      have BC7 := Aside0.mk (blk_below HBC.out hgr)
      have hc := cc1 BC7.out
      have hr1 := cc1 ((HLW.out.below hgr).get 1 rfl)
      clear hgr
      gi_wp2
      have hz8 := blk_lt (HL8.out.get 1 rfl)
      rw [← HM.out] at hz8
      refine ⟨kf_set (kf_below _ HB7.out) (by show g + 1 < _; omega) _, pre, x, rfl, by omega, ?_⟩
      rw [HZ.out]
      exact HXZ.out
  case done =>
    rintro D ys W hD rfl hI hK
    have HWB := Aside0.mk (show Below Wp.heap.size Wp W by rw [← HM.out]; exact hI.2)
    have HLW := Aside0.mk (HL8.out.below HWB.out)
    have HXW := Aside0.mk (Kd.C_below HX8'.out HWB.out)
    have HCW := Aside0.mk (Kd.C_below HC.out (HB8.out.trans (HWB.out.mono HB8.out.size)))
    have HBC := Aside0.mk hI.1.1.2
    have HKD := Aside0.mk hK
    clear hK hI
    rw [hT.out]
    have k1 := fun d os => ck2 (blk_regrown (HLW.out.get 0 rfl) d os)
    have k2 := fun d os => ck2 (blk_regrown (HLW.out.get 2 rfl) d os)
    have k3 := fun d os => ck1 (blk_regrown HBC.out d os)
    have GS := Aside0.mk (fun (W2 : World) (hb : Below W.heap.size W W2) => setgood_calls (c := c2) (show Kd.C k34 W2 A2 L.length L from Kd.C_below HXW.out hb) p)
    have RG := Aside0.mk (fun (W2 : World) (hb : Below W.heap.size W W2) => rgood_calls (Kd.C_below HCW.out hb) hcc (by omega) p)
    rw [← HLe.out] at RG
    rw [hlm] at GS
    have HWb := Aside0.mk (show Below w.heap.size w W from HB8.out.trans (HWB.out.mono HB8.out.size))
    have hwm9 : w.heap.size ≤ w9.heap.size := Nat.le_trans hwm hm9
    have hdl := blk_lt HKD.out
    have hgl2 := blk_lt (HLW.out.get 1 rfl)
    have hgD : g + 1 ≠ D := by have := blk_lt (HL8.out.get 1 rfl); rw [← HM.out] at this; omega
    have hgd := HGD.out
    have e1 : errW u.2 = .nilIface := by rw [HU.out, use_true hgd]; rfl
    have e2 : errW v.2 = .nilIface := by rw [HV.out, again_true a hgd]; rfl
    have e3 : u.2.isNone = true := by rw [HU.out, use_true hgd]; rfl
    have e4 : v.2.isNone = true := by rw [HV.out, again_true a hgd]; rfl
    have e5 : ((ys.length : Nat) : Int) = (l.length : Int) := by rw [HXS.out]; unfold allL; rw [if_pos hgd, hlm]
    rw [hgd] at GS RG
    rw [e5] at k3
    simp only [e1, e2, e3, e4]
    clear hgd e1 e2 e3 e4 e5
    go_wp2_with fail
    refine wp_region_quiet_below (by kernel_rfl) (by kernel_rfl) ?_
    repeat (quiet_step (first | exact Calls.regrown_of (GS.out _ (below_regrown W _ _)) | exact Calls.regrown_of (RG.out _ (below_regrown W _ _))))
    refine wpQuiet_nil ?_
    intro _ hw'
    obtain ⟨⟨dq, osq⟩, hw''⟩ := hw'
    subst hw''
    have hgr := below_regrown W dq osq
    obtain ⟨W7, hW7⟩ : ∃ W7, W7 = grow (redrawn W dq) osq := ⟨_, rfl⟩
    rw [← hW7] at hgr ⊢
    clear hW7 k1 k2 k3
    have HB7 := Aside0.mk hgr
    have HL7 := Aside0.mk (HLW.out.below hgr)
    have HX7 := Aside0.mk (Kd.C_below HXW.out hgr)
    have HC7 := Aside0.mk (Kd.C_below HCW.out hgr)
    have HK7 := Aside0.mk (blk_below HKD.out hgr)
    clear hgr
    go_wp2_with fail
    have DU := Aside0.mk (fun W2 => d13_calls (w := W2) u.1)
    have DV := Aside0.mk (fun W2 => d13_calls (w := W2) v.1)
    have DX := Aside0.mk (fun W2 => d13_calls (w := W2) x.1)
    unfold cs34 at DU DV DX
    have AC := Aside0.mk (fun (W2 : World) (hb : Below W7.heap.size W7 W2) => setactive_calls (c := c2) (show Kd.C k34 W2 A2 L.length L from Kd.C_below HX7.out hb) HXc.out hL10 p)
    have RA := Aside0.mk (fun (W2 : World) (hb : Below W7.heap.size W7 W2) => ractive_calls (Kd.C_below HC7.out hb) hcc (by omega) p)
    rw [← HLe.out] at RA
    rw [hlm] at AC
    obtain ⟨na, hna⟩ : ∃ na, na = cnt (allL L p) := ⟨_, rfl⟩
    rw [← hna] at AC RA
    clear hna
    have q1 := eqb_self u.1
    have q2 := eqb_self v.1
    have q3 := eqb_self x.1
    refine wp_normal ?_
    refine start_ (n := 52) (S := fun w' => Below W7.heap.size W7 w' ∧ (w'.cell? ⟨g + 1, 0, none⟩ = some (.bool false) ∧ w'.frozen? ⟨g + 1, 0, none⟩ = false) ∧ (w'.cell? ⟨g, 0, none⟩ = some (.slice A l.length c) ∧ w'.cell? ⟨g, 1, none⟩ = some (.int .i64 p)) ∧ (w'.cell? ⟨w2.heap.size, 0, none⟩ = some (.slice A2 l.length c2) ∧ w'.cell? ⟨w2.heap.size, 1, none⟩ = some (.int .i64 p)) ∧ (w'.cell? ⟨w3.heap.size, 0, none⟩ = some (.int .i64 u.1.f0.f0) ∧ w'.cell? ⟨w3.heap.size, 1, none⟩ = some (.int .i64 u.1.f0.f1) ∧ w'.cell? ⟨w3.heap.size, 2, none⟩ = some (.int .i64 u.1.f0.f2) ∧ w'.cell? ⟨w3.heap.size, 3, none⟩ = some (.bool u.1.f0.f3) ∧ w'.cell? ⟨w3.heap.size, 4, none⟩ = some (.int .i64 u.1.f1.f0) ∧ w'.cell? ⟨w3.heap.size, 5, none⟩ = some (.int .i64 u.1.f1.f1) ∧ w'.cell? ⟨w3.heap.size, 6, none⟩ = some (.int .i64 u.1.f1.f2) ∧ w'.cell? ⟨w3.heap.size, 7, none⟩ = some (.int .i64 u.1.f2) ∧ w'.cell? ⟨w3.heap.size, 8, none⟩ = some (.int .i64 u.1.f3) ∧ w'.cell? ⟨w3.heap.size, 9, none⟩ = some (.int .u32 u.1.f4) ∧ w'.cell? ⟨w3.heap.size, 10, none⟩ = some (.int .i64 u.1.f5)) ∧ (w'.cell? ⟨w4.heap.size, 0, none⟩ = some (.int .i64 v.1.f0.f0) ∧ w'.cell? ⟨w4.heap.size, 1, none⟩ = some (.int .i64 v.1.f0.f1) ∧ w'.cell? ⟨w4.heap.size, 2, none⟩ = some (.int .i64 v.1.f0.f2) ∧ w'.cell? ⟨w4.heap.size, 3, none⟩ = some (.bool v.1.f0.f3) ∧ w'.cell? ⟨w4.heap.size, 4, none⟩ = some (.int .i64 v.1.f1.f0) ∧ w'.cell? ⟨w4.heap.size, 5, none⟩ = some (.int .i64 v.1.f1.f1) ∧ w'.cell? ⟨w4.heap.size, 6, none⟩ = some (.int .i64 v.1.f1.f2) ∧ w'.cell? ⟨w4.heap.size, 7, none⟩ = some (.int .i64 v.1.f2) ∧ w'.cell? ⟨w4.heap.size, 8, none⟩ = some (.int .i64 v.1.f3) ∧ w'.cell? ⟨w4.heap.size, 9, none⟩ = some (.int .u32 v.1.f4) ∧ w'.cell? ⟨w4.heap.size, 10, none⟩ = some (.int .i64 v.1.f5)) ∧ (w'.cell? ⟨w5.heap.size, 0, none⟩ = some (.int .i64 x.1.f0.f0) ∧ w'.cell? ⟨w5.heap.size, 1, none⟩ = some (.int .i64 x.1.f0.f1) ∧ w'.cell? ⟨w5.heap.size, 2, none⟩ = some (.int .i64 x.1.f0.f2) ∧ w'.cell? ⟨w5.heap.size, 3, none⟩ = some (.bool x.1.f0.f3) ∧ w'.cell? ⟨w5.heap.size, 4, none⟩ = some (.int .i64 x.1.f1.f0) ∧ w'.cell? ⟨w5.heap.size, 5, none⟩ = some (.int .i64 x.1.f1.f1) ∧ w'.cell? ⟨w5.heap.size, 6, none⟩ = some (.int .i64 x.1.f1.f2) ∧ w'.cell? ⟨w5.heap.size, 7, none⟩ = some (.int .i64 x.1.f2) ∧ w'.cell? ⟨w5.heap.size, 8, none⟩ = some (.int .i64 x.1.f3) ∧ w'.cell? ⟨w5.heap.size, 9, none⟩ = some (.int .u32 x.1.f4) ∧ w'.cell? ⟨w5.heap.size, 10, none⟩ = some (.int .i64 x.1.f5)) ∧ (w'.cell? ⟨w6.heap.size, 0, none⟩ = some (.int .i64 u.1.f0.f0) ∧ w'.cell? ⟨w6.heap.size, 1, none⟩ = some (.int .i64 u.1.f0.f1) ∧ w'.cell? ⟨w6.heap.size, 2, none⟩ = some (.int .i64 u.1.f0.f2) ∧ w'.cell? ⟨w6.heap.size, 3, none⟩ = some (.bool u.1.f0.f3) ∧ w'.cell? ⟨w6.heap.size, 4, none⟩ = some (.int .i64 u.1.f1.f0) ∧ w'.cell? ⟨w6.heap.size, 5, none⟩ = some (.int .i64 u.1.f1.f1) ∧ w'.cell? ⟨w6.heap.size, 6, none⟩ = some (.int .i64 u.1.f1.f2) ∧ w'.cell? ⟨w6.heap.size, 7, none⟩ = some (.int .i64 u.1.f2) ∧ w'.cell? ⟨w6.heap.size, 8, none⟩ = some (.int .i64 u.1.f3) ∧ w'.cell? ⟨w6.heap.size, 9, none⟩ = some (.int .u32 u.1.f4) ∧ w'.cell? ⟨w6.heap.size, 10, none⟩ = some (.int .i64 u.1.f5)) ∧ (w'.cell? ⟨w7.heap.size, 0, none⟩ = some (.int .i64 v.1.f0.f0) ∧ w'.cell? ⟨w7.heap.size, 1, none⟩ = some (.int .i64 v.1.f0.f1) ∧ w'.cell? ⟨w7.heap.size, 2, none⟩ = some (.int .i64 v.1.f0.f2) ∧ w'.cell? ⟨w7.heap.size, 3, none⟩ = some (.bool v.1.f0.f3) ∧ w'.cell? ⟨w7.heap.size, 4, none⟩ = some (.int .i64 v.1.f1.f0) ∧ w'.cell? ⟨w7.heap.size, 5, none⟩ = some (.int .i64 v.1.f1.f1) ∧ w'.cell? ⟨w7.heap.size, 6, none⟩ = some (.int .i64 v.1.f1.f2) ∧ w'.cell? ⟨w7.heap.size, 7, none⟩ = some (.int .i64 v.1.f2) ∧ w'.cell? ⟨w7.heap.size, 8, none⟩ = some (.int .i64 v.1.f3) ∧ w'.cell? ⟨w7.heap.size, 9, none⟩ = some (.int .u32 v.1.f4) ∧ w'.cell? ⟨w7.heap.size, 10, none⟩ = some (.int .i64 v.1.f5)) ∧ (w'.cell? ⟨w8.heap.size, 0, none⟩ = some (.int .i64 x.1.f0.f0) ∧ w'.cell? ⟨w8.heap.size, 1, none⟩ = some (.int .i64 x.1.f0.f1) ∧ w'.cell? ⟨w8.heap.size, 2, none⟩ = some (.int .i64 x.1.f0.f2) ∧ w'.cell? ⟨w8.heap.size, 3, none⟩ = some (.bool x.1.f0.f3) ∧ w'.cell? ⟨w8.heap.size, 4, none⟩ = some (.int .i64 x.1.f1.f0) ∧ w'.cell? ⟨w8.heap.size, 5, none⟩ = some (.int .i64 x.1.f1.f1) ∧ w'.cell? ⟨w8.heap.size, 6, none⟩ = some (.int .i64 x.1.f1.f2) ∧ w'.cell? ⟨w8.heap.size, 7, none⟩ = some (.int .i64 x.1.f2) ∧ w'.cell? ⟨w8.heap.size, 8, none⟩ = some (.int .i64 x.1.f3) ∧ w'.cell? ⟨w8.heap.size, 9, none⟩ = some (.int .u32 x.1.f4) ∧ w'.cell? ⟨w8.heap.size, 10, none⟩ = some (.int .i64 x.1.f5))) (ds := [51]) #[false, false, false, false, false, false, false, false, false, false, false, false, false, false, false, false, false, false, false, false, false, false, false, false, false, false, false, false, false, false, false, false, false, false, false, false, false, false, false, false, false, false, false, false, false, false, false, false, false, false, false, false] (by kernel_rfl) rfl rfl ⟨below_drew1 (Below.refl _ _), cc1 (blk_below (HL7.out.get 1 rfl) (below_drew1 (Below.refl _ _))), ck2 (blk_below (HL7.out.get 0 rfl) (below_drew1 (Below.refl _ _))), ck2 (blk_below (HL7.out.get 2 rfl) (below_drew1 (Below.refl _ _))), ck11 (blk_below (HL7.out.get 3 rfl) (below_drew1 (Below.refl _ _))), ck11 (blk_below (HL7.out.get 4 rfl) (below_drew1 (Below.refl _ _))), ck11 (blk_below (HL7.out.get 5 rfl) (below_drew1 (Below.refl _ _))), ck11 (blk_below (HL7.out.get 6 rfl) (below_drew1 (Below.refl _ _))), ck11 (blk_below (HL7.out.get 7 rfl) (below_drew1 (Below.refl _ _))), ck11 (blk_below (HL7.out.get 8 rfl) (below_drew1 (Below.refl _ _)))⟩ (fun hHeld => ?_)
    refine with_tabW useR.tab20 useR.bits20 (fun HT_ HW_ => ?_)
    refine pure_ (i := 0) (N := some 105) (v := ?_) (a' := ?_) #[true, false, false, false, false, false, false, false, false, false, false, false, false, false, false, false, false, false, false, false, false, false, false, false, false, false, false, false, false, false, false, false, false, false, false, false, false, false, false, false, false, false, false, false, false, false, false, false, false, false, false, false] rfl rfl (any_of HT_.out (by kernel_rfl)) (fun _ _ _ h => h) (Or.inl ⟨by rfl, ?_⟩) ?_ ?_
    rotate_left
    · intro w'
      go_simp
      with_reducible rfl
    rotate_left
    · simp only [Act.put, List.setIfInBounds_toArray, List.set_cons_zero, List.set_cons_succ, i64_w, i32_w]
      rfl
    refine pure_ (i := 1) (N := some 106) (v := ?_) (a' := ?_) #[true, true, false, false, false, false, false, false, false, false, false, false, false, false, false, false, false, false, false, false, false, false, false, false, false, false, false, false, false, false, false, false, false, false, false, false, false, false, false, false, false, false, false, false, false, false, false, false, false, false, false, false] rfl rfl (any_of HT_.out (by kernel_rfl)) (fun _ _ _ h => h) (Or.inl ⟨by rfl, ?_⟩) ?_ ?_
    rotate_left
    · intro w'
      go_simp
      with_reducible rfl
    rotate_left
    · simp only [Act.put, List.setIfInBounds_toArray, List.set_cons_zero, List.set_cons_succ, i64_w, i32_w]
      rfl
    refine pure_ (i := 2) (N := some 107) (v := ?_) (a' := ?_) #[true, true, true, false, false, false, false, false, false, false, false, false, false, false, false, false, false, false, false, false, false, false, false, false, false, false, false, false, false, false, false, false, false, false, false, false, false, false, false, false, false, false, false, false, false, false, false, false, false, false, false, false] rfl rfl (any_of HT_.out (by kernel_rfl)) (fun _ _ _ h => h) (Or.inl ⟨by rfl, ?_⟩) ?_ ?_
    rotate_left
    · intro w'
      go_simp
      with_reducible rfl
    rotate_left
    · simp only [Act.put, List.setIfInBounds_toArray, List.set_cons_zero, List.set_cons_succ, i64_w, i32_w]
      rfl
    refine pure_ (i := 3) (N := some 108) (v := ?_) (a' := ?_) #[true, true, true, true, false, false, false, false, false, false, false, false, false, false, false, false, false, false, false, false, false, false, false, false, false, false, false, false, false, false, false, false, false, false, false, false, false, false, false, false, false, false, false, false, false, false, false, false, false, false, false, false] rfl rfl (any_of HT_.out (by kernel_rfl)) (fun _ _ _ h => h) (Or.inl ⟨by rfl, ?_⟩) ?_ ?_
    rotate_left
    · intro w'
      go_simp
      with_reducible rfl
    rotate_left
    · simp only [Act.put, List.setIfInBounds_toArray, List.set_cons_zero, List.set_cons_succ, i64_w, i32_w]
      rfl
    refine pure_ (i := 4) (N := some 109) (v := ?_) (a' := ?_) #[true, true, true, true, true, false, false, false, false, false, false, false, false, false, false, false, false, false, false, false, false, false, false, false, false, false, false, false, false, false, false, false, false, false, false, false, false, false, false, false, false, false, false, false, false, false, false, false, false, false, false, false] rfl rfl (any_of HT_.out (by kernel_rfl)) (fun _ _ _ h => h) (Or.inl ⟨by rfl, ?_⟩) ?_ ?_
    rotate_left
    · intro w'
      go_simp
      with_reducible rfl
    rotate_left
    · simp only [Act.put, List.setIfInBounds_toArray, List.set_cons_zero, List.set_cons_succ, i64_w, i32_w]
      rfl
    refine pure_ (i := 5) (N := some 110) (v := ?_) (a' := ?_) #[true, true, true, true, true, true, false, false, false, false, false, false, false, false, false, false, false, false, false, false, false, false, false, false, false, false, false, false, false, false, false, false, false, false, false, false, false, false, false, false, false, false, false, false, false, false, false, false, false, false, false, false] rfl rfl (any_of HT_.out (by kernel_rfl)) (fun _ _ _ h => h) (Or.inl ⟨by rfl, ?_⟩) ?_ ?_
    rotate_left
    · intro w'
      go_simp
      with_reducible rfl
    rotate_left
    · simp only [Act.put, List.setIfInBounds_toArray, List.set_cons_zero, List.set_cons_succ, i64_w, i32_w]
      rfl
    refine pure_ (i := 6) (N := some 111) (v := ?_) (a' := ?_) #[true, true, true, true, true, true, true, false, false, false, false, false, false, false, false, false, false, false, false, false, false, false, false, false, false, false, false, false, false, false, false, false, false, false, false, false, false, false, false, false, false, false, false, false, false, false, false, false, false, false, false, false] rfl rfl (any_of HT_.out (by kernel_rfl)) (fun _ _ _ h => h) (Or.inl ⟨by rfl, ?_⟩) ?_ ?_
    rotate_left
    · intro w'
      go_simp
      with_reducible rfl
    rotate_left
    · simp only [Act.put, List.setIfInBounds_toArray, List.set_cons_zero, List.set_cons_succ, i64_w, i32_w]
      rfl
    refine pure_ (i := 7) (N := some 112) (v := ?_) (a' := ?_) #[true, true, true, true, true, true, true, true, false, false, false, false, false, false, false, false, false, false, false, false, false, false, false, false, false, false, false, false, false, false, false, false, false, false, false, false, false, false, false, false, false, false, false, false, false, false, false, false, false, false, false, false] rfl rfl (any_of HT_.out (by kernel_rfl)) (fun _ _ _ h => h) (Or.inl ⟨by rfl, ?_⟩) ?_ ?_
    rotate_left
    · intro w'
      go_simp
      with_reducible rfl
    rotate_left
    · simp only [Act.put, List.setIfInBounds_toArray, List.set_cons_zero, List.set_cons_succ, i64_w, i32_w]
      rfl
    refine pure_ (i := 8) (N := some 113) (v := ?_) (a' := ?_) #[true, true, true, true, true, true, true, true, true, false, false, false, false, false, false, false, false, false, false, false, false, false, false, false, false, false, false, false, false, false, false, false, false, false, false, false, false, false, false, false, false, false, false, false, false, false, false, false, false, false, false, false] rfl rfl (any_of HT_.out (by kernel_rfl)) (fun _ _ _ h => h) (Or.inl ⟨by rfl, ?_⟩) ?_ ?_
    rotate_left
    · intro w'
      go_simp
      with_reducible rfl
    rotate_left
    · simp only [Act.put, List.setIfInBounds_toArray, List.set_cons_zero, List.set_cons_succ, i64_w, i32_w]
      rfl
    refine pure_ (i := 9) (N := some 114) (v := ?_) (a' := ?_) #[true, true, true, true, true, true, true, true, true, true, false, false, false, false, false, false, false, false, false, false, false, false, false, false, false, false, false, false, false, false, false, false, false, false, false, false, false, false, false, false, false, false, false, false, false, false, false, false, false, false, false, false] rfl rfl (any_of HT_.out (by kernel_rfl)) (fun _ _ _ h => h) (Or.inl ⟨by rfl, ?_⟩) ?_ ?_
    rotate_left
    · intro w'
      go_simp
      with_reducible rfl
    rotate_left
    · simp only [Act.put, List.setIfInBounds_toArray, List.set_cons_zero, List.set_cons_succ, i64_w, i32_w]
      rfl
    refine pure_ (i := 10) (N := some 115) (v := ?_) (a' := ?_) #[true, true, true, true, true, true, true, true, true, true, true, false, false, false, false, false, false, false, false, false, false, false, false, false, false, false, false, false, false, false, false, false, false, false, false, false, false, false, false, false, false, false, false, false, false, false, false, false, false, false, false, false] rfl rfl (any_of HT_.out (by kernel_rfl)) (fun _ _ _ h => h) (Or.inl ⟨by rfl, ?_⟩) ?_ ?_
    rotate_left
    · intro w'
      go_simp
      with_reducible rfl
    rotate_left
    · simp only [Act.put, List.setIfInBounds_toArray, List.set_cons_zero, List.set_cons_succ, i64_w, i32_w]
      rfl
    refine pure_ (i := 11) (N := some 116) (v := ?_) (a' := ?_) #[true, true, true, true, true, true, true, true, true, true, true, true, false, false, false, false, false, false, false, false, false, false, false, false, false, false, false, false, false, false, false, false, false, false, false, false, false, false, false, false, false, false, false, false, false, false, false, false, false, false, false, false] rfl rfl (any_of HT_.out (by kernel_rfl)) (fun _ _ _ h => h) (Or.inl ⟨by rfl, ?_⟩) ?_ ?_
    rotate_left
    · intro w'
      go_simp
      with_reducible rfl
    rotate_left
    · simp only [Act.put, List.setIfInBounds_toArray, List.set_cons_zero, List.set_cons_succ, i64_w, i32_w]
      rfl
    refine pure_ (i := 12) (N := some 117) (v := ?_) (a' := ?_) #[true, true, true, true, true, true, true, true, true, true, true, true, true, false, false, false, false, false, false, false, false, false, false, false, false, false, false, false, false, false, false, false, false, false, false, false, false, false, false, false, false, false, false, false, false, false, false, false, false, false, false, false] rfl rfl (any_of HT_.out (by kernel_rfl)) (fun _ _ _ h => h) (Or.inl ⟨by rfl, ?_⟩) ?_ ?_
    rotate_left
    · intro w'
      go_simp
      with_reducible rfl
    rotate_left
    · simp only [Act.put, List.setIfInBounds_toArray, List.set_cons_zero, List.set_cons_succ, i64_w, i32_w]
      rfl
    refine pure_ (i := 13) (N := some 118) (v := undef) (a' := ?_) #[true, true, true, true, true, true, true, true, true, true, true, true, true, true, false, false, false, false, false, false, false, false, false, false, false, false, false, false, false, false, false, false, false, false, false, false, false, false, false, false, false, false, false, false, false, false, false, false, false, false, false, false] rfl rfl (any_of HT_.out (by kernel_rfl)) (fun _ _ _ h => h) (Or.inr ⟨by rfl, rfl⟩) ?_ ?_
    rotate_left
    · simp only [Act.put, List.setIfInBounds_toArray, List.set_cons_zero, List.set_cons_succ, i64_w, i32_w]
      rfl
    refine pure_ (i := 14) (N := some 119) (v := undef) (a' := ?_) #[true, true, true, true, true, true, true, true, true, true, true, true, true, true, true, false, false, false, false, false, false, false, false, false, false, false, false, false, false, false, false, false, false, false, false, false, false, false, false, false, false, false, false, false, false, false, false, false, false, false, false, false] rfl rfl (any_of HT_.out (by kernel_rfl)) (fun _ _ _ h => h) (Or.inr ⟨by rfl, rfl⟩) ?_ ?_
    rotate_left
    · simp only [Act.put, List.setIfInBounds_toArray, List.set_cons_zero, List.set_cons_succ, i64_w, i32_w]
      rfl
    refine pure_ (i := 15) (N := some 120) (v := undef) (a' := ?_) #[true, true, true, true, true, true, true, true, true, true, true, true, true, true, true, true, false, false, false, false, false, false, false, false, false, false, false, false, false, false, false, false, false, false, false, false, false, false, false, false, false, false, false, false, false, false, false, false, false, false, false, false] rfl rfl (any_of HT_.out (by kernel_rfl)) (fun _ _ _ h => h) (Or.inr ⟨by rfl, rfl⟩) ?_ ?_
    rotate_left
    · simp only [Act.put, List.setIfInBounds_toArray, List.set_cons_zero, List.set_cons_succ, i64_w, i32_w]
      rfl
    refine pure_ (i := 16) (N := some 121) (v := undef) (a' := ?_) #[true, true, true, true, true, true, true, true, true, true, true, true, true, true, true, true, true, false, false, false, false, false, false, false, false, false, false, false, false, false, false, false, false, false, false, false, false, false, false, false, false, false, false, false, false, false, false, false, false, false, false, false] rfl rfl (any_of HT_.out (by kernel_rfl)) (fun _ _ _ h => h) (Or.inr ⟨by rfl, rfl⟩) ?_ ?_
    rotate_left
    · simp only [Act.put, List.setIfInBounds_toArray, List.set_cons_zero, List.set_cons_succ, i64_w, i32_w]
      rfl
    refine pure_ (i := 17) (N := some 122) (v := undef) (a' := ?_) #[true, true, true, true, true, true, true, true, true, true, true, true, true, true, true, true, true, true, false, false, false, false, false, false, false, false, false, false, false, false, false, false, false, false, false, false, false, false, false, false, false, false, false, false, false, false, false, false, false, false, false, false] rfl rfl (any_of HT_.out (by kernel_rfl)) (fun _ _ _ h => h) (Or.inr ⟨by rfl, rfl⟩) ?_ ?_
    rotate_left
    · simp only [Act.put, List.setIfInBounds_toArray, List.set_cons_zero, List.set_cons_succ, i64_w, i32_w]
      rfl
    refine pure_ (i := 18) (N := some 123) (v := undef) (a' := ?_) #[true, true, true, true, true, true, true, true, true, true, true, true, true, true, true, true, true, true, true, false, false, false, false, false, false, false, false, false, false, false, false, false, false, false, false, false, false, false, false, false, false, false, false, false, false, false, false, false, false, false, false, false] rfl rfl (any_of HT_.out (by kernel_rfl)) (fun _ _ _ h => h) (Or.inr ⟨by rfl, rfl⟩) ?_ ?_
    rotate_left
    · simp only [Act.put, List.setIfInBounds_toArray, List.set_cons_zero, List.set_cons_succ, i64_w, i32_w]
      rfl
    refine pure_ (i := 19) (N := some 124) (v := ?_) (a' := ?_) #[true, true, true, true, true, true, true, true, true, true, true, true, true, true, true, true, true, true, true, true, false, false, false, false, false, false, false, false, false, false, false, false, false, false, false, false, false, false, false, false, false, false, false, false, false, false, false, false, false, false, false, false] rfl rfl (any_of HT_.out (by kernel_rfl)) (fun _ _ _ h => h) (Or.inl ⟨by rfl, ?_⟩) ?_ ?_
    rotate_left
    · intro w'
      go_simp
      with_reducible rfl
    rotate_left
    · simp only [Act.put, List.setIfInBounds_toArray, List.set_cons_zero, List.set_cons_succ, i64_w, i32_w]
      rfl
    refine pure_ (i := 20) (N := some 125) (v := ?_) (a' := ?_) #[true, true, true, true, true, true, true, true, true, true, true, true, true, true, true, true, true, true, true, true, true, false, false, false, false, false, false, false, false, false, false, false, false, false, false, false, false, false, false, false, false, false, false, false, false, false, false, false, false, false, false, false] rfl rfl (any_of HT_.out (by kernel_rfl)) (fun _ _ _ h => h) (Or.inl ⟨by rfl, ?_⟩) ?_ ?_
    rotate_left
    · intro w'
      go_simp
      with_reducible rfl
    rotate_left
    · simp only [Act.put, List.setIfInBounds_toArray, List.set_cons_zero, List.set_cons_succ, i64_w, i32_w]
      rfl
    refine pure_ (i := 21) (N := some 126) (v := ?_) (a' := ?_) #[true, true, true, true, true, true, true, true, true, true, true, true, true, true, true, true, true, true, true, true, true, true, false, false, false, false, false, false, false, false, false, false, false, false, false, false, false, false, false, false, false, false, false, false, false, false, false, false, false, false, false, false] rfl rfl (any_of HT_.out (by kernel_rfl)) (fun _ _ _ h => h) (Or.inl ⟨by rfl, ?_⟩) ?_ ?_
    rotate_left
    · intro w'
      go_simp
      with_reducible rfl
    rotate_left
    · simp only [Act.put, List.setIfInBounds_toArray, List.set_cons_zero, List.set_cons_succ, i64_w, i32_w]
      rfl
    refine take_ (i := 22) (N := some 127) (v := ?_) (a' := ?_) #[true, true, true, true, true, true, true, true, true, true, true, true, true, true, true, true, true, true, true, true, true, true, true, false, false, false, false, false, false, false, false, false, false, false, false, false, false, false, false, false, false, false, false, false, false, false, false, false, false, false, false, false] rfl rfl (take_ofW HT_.out HW_.out (by kernel_rfl)) (fun _ _ _ h => h) (Or.inl ⟨by rfl, ?_⟩) hHeld ?_ ?_
    rotate_left
    · rintro w' ⟨s0, s1, s2, s3, s4, s5, s6, s7, s8, s9⟩
      go_simp
      with_reducible rfl
    rotate_left
    · simp only [Act.put, List.setIfInBounds_toArray, List.set_cons_zero, List.set_cons_succ, i64_w, i32_w]
      rfl
    refine take_ (i := 24) (N := some 129) (v := ?_) (a' := ?_) #[true, true, true, true, true, true, true, true, true, true, true, true, true, true, true, true, true, true, true, true, true, true, true, false, true, false, false, false, false, false, false, false, false, false, false, false, false, false, false, false, false, false, false, false, false, false, false, false, false, false, false, false] rfl rfl (take_ofW HT_.out HW_.out (by kernel_rfl)) (fun _ _ _ h => h) (Or.inl ⟨by rfl, ?_⟩) hHeld ?_ ?_
    rotate_left
    · rintro w' ⟨s0, s1, s2, s3, s4, s5, s6, s7, s8, s9⟩
      go_simp
      with_reducible rfl
    rotate_left
    · simp only [Act.put, List.setIfInBounds_toArray, List.set_cons_zero, List.set_cons_succ, i64_w, i32_w]
      rfl
    refine one_ (i := 23) (N := some 128) #[true, true, true, true, true, true, true, true, true, true, true, true, true, true, true, true, true, true, true, true, true, true, true, true, true, false, false, false, false, false, false, false, false, false, false, false, false, false, false, false, false, false, false, false, false, false, false, false, false, false, false, false] rfl rfl (one_of HT_.out (by kernel_rfl)) (by decide) (fun K hK => ?_)
    refine goes_ Try.func16 (by kernel_rfl) rfl #[.agg #[.int .i64 u.1.f0.f0, .int .i64 u.1.f0.f1, .int .i64 u.1.f0.f2, .bool u.1.f0.f3, .int .i64 u.1.f1.f0, .int .i64 u.1.f1.f1, .int .i64 u.1.f1.f2, .int .i64 u.1.f2, .int .i64 u.1.f3, .int .u32 u.1.f4, .int .i64 u.1.f5]] (by rfl) rfl rfl (by simp only [List.map_toArray, List.map_cons, List.map_nil]; rfl) ?_
    with_reducible refine (DU.out _).mono ?_
    rintro e w14 ⟨rfl, hb⟩
    refine ⟨_, rfl, ?_⟩
    refine hK.out _ _ ⟨below_step hHeld.1 hb, cc1 (blk_below (HL7.out.get 1 rfl) (below_step hHeld.1 hb)), ck2 (blk_below (HL7.out.get 0 rfl) (below_step hHeld.1 hb)), ck2 (blk_below (HL7.out.get 2 rfl) (below_step hHeld.1 hb)), ck11 (blk_below (HL7.out.get 3 rfl) (below_step hHeld.1 hb)), ck11 (blk_below (HL7.out.get 4 rfl) (below_step hHeld.1 hb)), ck11 (blk_below (HL7.out.get 5 rfl) (below_step hHeld.1 hb)), ck11 (blk_below (HL7.out.get 6 rfl) (below_step hHeld.1 hb)), ck11 (blk_below (HL7.out.get 7 rfl) (below_step hHeld.1 hb)), ck11 (blk_below (HL7.out.get 8 rfl) (below_step hHeld.1 hb))⟩ (fun hHeld => ?_)
    clear hK K
    refine norm_ (a' := ?_) ?_ ?_
    rotate_left
    · show Act.put _ (some 128) _ = _
      simp only [Act.put, List.setIfInBounds_toArray, List.set_cons_zero, List.set_cons_succ, i64_w, i32_w]
      rfl
    refine pure_ (i := 25) (N := some 130) (v := ?_) (a' := ?_) #[true, true, true, true, true, true, true, true, true, true, true, true, true, true, true, true, true, true, true, true, true, true, true, true, true, true, false, false, false, false, false, false, false, false, false, false, false, false, false, false, false, false, false, false, false, false, false, false, false, false, false, false] rfl rfl (any_of HT_.out (by kernel_rfl)) (fun _ _ _ h => h) (Or.inl ⟨by rfl, ?_⟩) ?_ ?_
    rotate_left
    · intro w'
      go_simp
      with_reducible rfl
    rotate_left
    · simp only [Act.put, List.setIfInBounds_toArray, List.set_cons_zero, List.set_cons_succ, i64_w, i32_w]
      rfl
    refine pure_ (i := 26) (N := some 131) (v := ?_) (a' := ?_) #[true, true, true, true, true, true, true, true, true, true, true, true, true, true, true, true, true, true, true, true, true, true, true, true, true, true, true, false, false, false, false, false, false, false, false, false, false, false, false, false, false, false, false, false, false, false, false, false, false, false, false, false] rfl rfl (any_of HT_.out (by kernel_rfl)) (fun _ _ _ h => h) (Or.inl ⟨by rfl, ?_⟩) ?_ ?_
    rotate_left
    · intro w'
      go_simp
      with_reducible rfl
    rotate_left
    · simp only [Act.put, List.setIfInBounds_toArray, List.set_cons_zero, List.set_cons_succ, i64_w, i32_w]
      rfl
    refine pure_ (i := 27) (N := some 132) (v := ?_) (a' := ?_) #[true, true, true, true, true, true, true, true, true, true, true, true, true, true, true, true, true, true, true, true, true, true, true, true, true, true, true, true, false, false, false, false, false, false, false, false, false, false, false, false, false, false, false, false, false, false, false, false, false, false, false, false] rfl rfl (any_of HT_.out (by kernel_rfl)) (fun _ _ _ h => h) (Or.inl ⟨by rfl, ?_⟩) ?_ ?_
    rotate_left
    · intro w'
      go_simp
      with_reducible rfl
    rotate_left
    · simp only [Act.put, List.setIfInBounds_toArray, List.set_cons_zero, List.set_cons_succ, i64_w, i32_w]
      rfl
    refine take_ (i := 28) (N := some 133) (v := ?_) (a' := ?_) #[true, true, true, true, true, true, true, true, true, true, true, true, true, true, true, true, true, true, true, true, true, true, true, true, true, true, true, true, true, false, false, false, false, false, false, false, false, false, false, false, false, false, false, false, false, false, false, false, false, false, false, false] rfl rfl (take_ofW HT_.out HW_.out (by kernel_rfl)) (fun _ _ _ h => h) (Or.inl ⟨by rfl, ?_⟩) hHeld ?_ ?_
    rotate_left
    · rintro w' ⟨s0, s1, s2, s3, s4, s5, s6, s7, s8, s9⟩
      go_simp
      with_reducible rfl
    rotate_left
    · simp only [Act.put, List.setIfInBounds_toArray, List.set_cons_zero, List.set_cons_succ, i64_w, i32_w]
      rfl
    refine take_ (i := 30) (N := some 135) (v := ?_) (a' := ?_) #[true, true, true, true, true, true, true, true, true, true, true, true, true, true, true, true, true, true, true, true, true, true, true, true, true, true, true, true, true, false, true, false, false, false, false, false, false, false, false, false, false, false, false, false, false, false, false, false, false, false, false, false] rfl rfl (take_ofW HT_.out HW_.out (by kernel_rfl)) (fun _ _ _ h => h) (Or.inl ⟨by rfl, ?_⟩) hHeld ?_ ?_
    rotate_left
    · rintro w' ⟨s0, s1, s2, s3, s4, s5, s6, s7, s8, s9⟩
      go_simp
      with_reducible rfl
    rotate_left
    · simp only [Act.put, List.setIfInBounds_toArray, List.set_cons_zero, List.set_cons_succ, i64_w, i32_w]
      rfl
    refine one_ (i := 29) (N := some 134) #[true, true, true, true, true, true, true, true, true, true, true, true, true, true, true, true, true, true, true, true, true, true, true, true, true, true, true, true, true, true, true, false, false, false, false, false, false, false, false, false, false, false, false, false, false, false, false, false, false, false, false, false] rfl rfl (one_of HT_.out (by kernel_rfl)) (by decide) (fun K hK => ?_)
    refine goes_ Try.func16 (by kernel_rfl) rfl #[.agg #[.int .i64 v.1.f0.f0, .int .i64 v.1.f0.f1, .int .i64 v.1.f0.f2, .bool v.1.f0.f3, .int .i64 v.1.f1.f0, .int .i64 v.1.f1.f1, .int .i64 v.1.f1.f2, .int .i64 v.1.f2, .int .i64 v.1.f3, .int .u32 v.1.f4, .int .i64 v.1.f5]] (by rfl) rfl rfl (by simp only [List.map_toArray, List.map_cons, List.map_nil]; rfl) ?_
    with_reducible refine (DV.out _).mono ?_
    rintro e w15 ⟨rfl, hb⟩
    refine ⟨_, rfl, ?_⟩
    refine hK.out _ _ ⟨below_step hHeld.1 hb, cc1 (blk_below (HL7.out.get 1 rfl) (below_step hHeld.1 hb)), ck2 (blk_below (HL7.out.get 0 rfl) (below_step hHeld.1 hb)), ck2 (blk_below (HL7.out.get 2 rfl) (below_step hHeld.1 hb)), ck11 (blk_below (HL7.out.get 3 rfl) (below_step hHeld.1 hb)), ck11 (blk_below (HL7.out.get 4 rfl) (below_step hHeld.1 hb)), ck11 (blk_below (HL7.out.get 5 rfl) (below_step hHeld.1 hb)), ck11 (blk_below (HL7.out.get 6 rfl) (below_step hHeld.1 hb)), ck11 (blk_below (HL7.out.get 7 rfl) (below_step hHeld.1 hb)), ck11 (blk_below (HL7.out.get 8 rfl) (below_step hHeld.1 hb))⟩ (fun hHeld => ?_)
    clear hK K
    refine norm_ (a' := ?_) ?_ ?_
    rotate_left
    · show Act.put _ (some 134) _ = _
      simp only [Act.put, List.setIfInBounds_toArray, List.set_cons_zero, List.set_cons_succ, i64_w, i32_w]
      rfl
    refine pure_ (i := 31) (N := some 136) (v := ?_) (a' := ?_) #[true, true, true, true, true, true, true, true, true, true, true, true, true, true, true, true, true, true, true, true, true, true, true, true, true, true, true, true, true, true, true, true, false, false, false, false, false, false, false, false, false, false, false, false, false, false, false, false, false, false, false, false] rfl rfl (any_of HT_.out (by kernel_rfl)) (fun _ _ _ h => h) (Or.inl ⟨by rfl, ?_⟩) ?_ ?_
    rotate_left
    · intro w'
      go_simp
      with_reducible rfl
    rotate_left
    · simp only [Act.put, List.setIfInBounds_toArray, List.set_cons_zero, List.set_cons_succ, i64_w, i32_w]
      rfl
    refine pure_ (i := 32) (N := some 137) (v := ?_) (a' := ?_) #[true, true, true, true, true, true, true, true, true, true, true, true, true, true, true, true, true, true, true, true, true, true, true, true, true, true, true, true, true, true, true, true, true, false, false, false, false, false, false, false, false, false, false, false, false, false, false, false, false, false, false, false] rfl rfl (any_of HT_.out (by kernel_rfl)) (fun _ _ _ h => h) (Or.inl ⟨by rfl, ?_⟩) ?_ ?_
    rotate_left
    · intro w'
      go_simp
      with_reducible rfl
    rotate_left
    · simp only [Act.put, List.setIfInBounds_toArray, List.set_cons_zero, List.set_cons_succ, i64_w, i32_w]
      rfl
    refine pure_ (i := 33) (N := some 138) (v := ?_) (a' := ?_) #[true, true, true, true, true, true, true, true, true, true, true, true, true, true, true, true, true, true, true, true, true, true, true, true, true, true, true, true, true, true, true, true, true, true, false, false, false, false, false, false, false, false, false, false, false, false, false, false, false, false, false, false] rfl rfl (any_of HT_.out (by kernel_rfl)) (fun _ _ _ h => h) (Or.inl ⟨by rfl, ?_⟩) ?_ ?_
    rotate_left
    · intro w'
      go_simp
      with_reducible rfl
    rotate_left
    · simp only [Act.put, List.setIfInBounds_toArray, List.set_cons_zero, List.set_cons_succ, i64_w, i32_w]
      rfl
    refine take_ (i := 34) (N := some 139) (v := ?_) (a' := ?_) #[true, true, true, true, true, true, true, true, true, true, true, true, true, true, true, true, true, true, true, true, true, true, true, true, true, true, true, true, true, true, true, true, true, true, true, false, false, false, false, false, false, false, false, false, false, false, false, false, false, false, false, false] rfl rfl (take_ofW HT_.out HW_.out (by kernel_rfl)) (fun _ _ _ h => h) (Or.inl ⟨by rfl, ?_⟩) hHeld ?_ ?_
    rotate_left
    · rintro w' ⟨s0, s1, s2, s3, s4, s5, s6, s7, s8, s9⟩
      go_simp
      with_reducible rfl
    rotate_left
    · simp only [Act.put, List.setIfInBounds_toArray, List.set_cons_zero, List.set_cons_succ, i64_w, i32_w]
      rfl
    refine take_ (i := 36) (N := some 141) (v := ?_) (a' := ?_) #[true, true, true, true, true, true, true, true, true, true, true, true, true, true, true, true, true, true, true, true, true, true, true, true, true, true, true, true, true, true, true, true, true, true, true, false, true, false, false, false, false, false, false, false, false, false, false, false, false, false, false, false] rfl rfl (take_ofW HT_.out HW_.out (by kernel_rfl)) (fun _ _ _ h => h) (Or.inl ⟨by rfl, ?_⟩) hHeld ?_ ?_
    rotate_left
    · rintro w' ⟨s0, s1, s2, s3, s4, s5, s6, s7, s8, s9⟩
      go_simp
      with_reducible rfl
    rotate_left
    · simp only [Act.put, List.setIfInBounds_toArray, List.set_cons_zero, List.set_cons_succ, i64_w, i32_w]
      rfl
    refine one_ (i := 35) (N := some 140) #[true, true, true, true, true, true, true, true, true, true, true, true, true, true, true, true, true, true, true, true, true, true, true, true, true, true, true, true, true, true, true, true, true, true, true, true, true, false, false, false, false, false, false, false, false, false, false, false, false, false, false, false] rfl rfl (one_of HT_.out (by kernel_rfl)) (by decide) (fun K hK => ?_)
    refine goes_ Try.func16 (by kernel_rfl) rfl #[.agg #[.int .i64 x.1.f0.f0, .int .i64 x.1.f0.f1, .int .i64 x.1.f0.f2, .bool x.1.f0.f3, .int .i64 x.1.f1.f0, .int .i64 x.1.f1.f1, .int .i64 x.1.f1.f2, .int .i64 x.1.f2, .int .i64 x.1.f3, .int .u32 x.1.f4, .int .i64 x.1.f5]] (by rfl) rfl rfl (by simp only [List.map_toArray, List.map_cons, List.map_nil]; rfl) ?_
    with_reducible refine (DX.out _).mono ?_
    rintro e w16 ⟨rfl, hb⟩
    refine ⟨_, rfl, ?_⟩
    refine hK.out _ _ ⟨below_step hHeld.1 hb, cc1 (blk_below (HL7.out.get 1 rfl) (below_step hHeld.1 hb)), ck2 (blk_below (HL7.out.get 0 rfl) (below_step hHeld.1 hb)), ck2 (blk_below (HL7.out.get 2 rfl) (below_step hHeld.1 hb)), ck11 (blk_below (HL7.out.get 3 rfl) (below_step hHeld.1 hb)), ck11 (blk_below (HL7.out.get 4 rfl) (below_step hHeld.1 hb)), ck11 (blk_below (HL7.out.get 5 rfl) (below_step hHeld.1 hb)), ck11 (blk_below (HL7.out.get 6 rfl) (below_step hHeld.1 hb)), ck11 (blk_below (HL7.out.get 7 rfl) (below_step hHeld.1 hb)), ck11 (blk_below (HL7.out.get 8 rfl) (below_step hHeld.1 hb))⟩ (fun hHeld => ?_)
    clear hK K
    refine norm_ (a' := ?_) ?_ ?_
    rotate_left
    · show Act.put _ (some 140) _ = _
      simp only [Act.put, List.setIfInBounds_toArray, List.set_cons_zero, List.set_cons_succ, i64_w, i32_w]
      rfl
    refine pure_ (i := 37) (N := some 142) (v := ?_) (a' := ?_) #[true, true, true, true, true, true, true, true, true, true, true, true, true, true, true, true, true, true, true, true, true, true, true, true, true, true, true, true, true, true, true, true, true, true, true, true, true, true, false, false, false, false, false, false, false, false, false, false, false, false, false, false] rfl rfl (any_of HT_.out (by kernel_rfl)) (fun _ _ _ h => h) (Or.inl ⟨by rfl, ?_⟩) ?_ ?_
    rotate_left
    · intro w'
      go_simp
      with_reducible rfl
    rotate_left
    · simp only [Act.put, List.setIfInBounds_toArray, List.set_cons_zero, List.set_cons_succ, i64_w, i32_w]
      rfl
    refine pure_ (i := 38) (N := some 143) (v := ?_) (a' := ?_) #[true, true, true, true, true, true, true, true, true, true, true, true, true, true, true, true, true, true, true, true, true, true, true, true, true, true, true, true, true, true, true, true, true, true, true, true, true, true, true, false, false, false, false, false, false, false, false, false, false, false, false, false] rfl rfl (any_of HT_.out (by kernel_rfl)) (fun _ _ _ h => h) (Or.inl ⟨by rfl, ?_⟩) ?_ ?_
    rotate_left
    · intro w'
      go_simp
      with_reducible rfl
    rotate_left
    · simp only [Act.put, List.setIfInBounds_toArray, List.set_cons_zero, List.set_cons_succ, i64_w, i32_w]
      rfl
    refine pure_ (i := 39) (N := some 144) (v := ?_) (a' := ?_) #[true, true, true, true, true, true, true, true, true, true, true, true, true, true, true, true, true, true, true, true, true, true, true, true, true, true, true, true, true, true, true, true, true, true, true, true, true, true, true, true, false, false, false, false, false, false, false, false, false, false, false, false] rfl rfl (any_of HT_.out (by kernel_rfl)) (fun _ _ _ h => h) (Or.inl ⟨by rfl, ?_⟩) ?_ ?_
    rotate_left
    · intro w'
      go_simp
      with_reducible rfl
    rotate_left
    · simp only [Act.put, List.setIfInBounds_toArray, List.set_cons_zero, List.set_cons_succ, i64_w, i32_w]
      rfl
    refine pure_ (i := 40) (N := some 145) (v := ?_) (a' := ?_) #[true, true, true, true, true, true, true, true, true, true, true, true, true, true, true, true, true, true, true, true, true, true, true, true, true, true, true, true, true, true, true, true, true, true, true, true, true, true, true, true, true, false, false, false, false, false, false, false, false, false, false, false] rfl rfl (any_of HT_.out (by kernel_rfl)) (fun _ _ _ h => h) (Or.inl ⟨by rfl, ?_⟩) ?_ ?_
    rotate_left
    · intro w'
      go_simp
      with_reducible rfl
    rotate_left
    · simp only [Act.put, List.setIfInBounds_toArray, List.set_cons_zero, List.set_cons_succ, i64_w, i32_w]
      rfl
    refine pure_ (i := 41) (N := some 146) (v := ?_) (a' := ?_) #[true, true, true, true, true, true, true, true, true, true, true, true, true, true, true, true, true, true, true, true, true, true, true, true, true, true, true, true, true, true, true, true, true, true, true, true, true, true, true, true, true, true, false, false, false, false, false, false, false, false, false, false] rfl rfl (any_of HT_.out (by kernel_rfl)) (fun _ _ _ h => h) (Or.inl ⟨by rfl, ?_⟩) ?_ ?_
    rotate_left
    · intro w'
      go_simp
      with_reducible rfl
    rotate_left
    · simp only [Act.put, List.setIfInBounds_toArray, List.set_cons_zero, List.set_cons_succ, i64_w, i32_w]
      rfl
    refine pure_ (i := 42) (N := some 147) (v := ?_) (a' := ?_) #[true, true, true, true, true, true, true, true, true, true, true, true, true, true, true, true, true, true, true, true, true, true, true, true, true, true, true, true, true, true, true, true, true, true, true, true, true, true, true, true, true, true, true, false, false, false, false, false, false, false, false, false] rfl rfl (any_of HT_.out (by kernel_rfl)) (fun _ _ _ h => h) (Or.inl ⟨by rfl, ?_⟩) ?_ ?_
    rotate_left
    · intro w'
      go_simp
      with_reducible rfl
    rotate_left
    · simp only [Act.put, List.setIfInBounds_toArray, List.set_cons_zero, List.set_cons_succ, i64_w, i32_w]
      rfl
    refine pure_ (i := 43) (N := some 148) (v := ?_) (a' := ?_) #[true, true, true, true, true, true, true, true, true, true, true, true, true, true, true, true, true, true, true, true, true, true, true, true, true, true, true, true, true, true, true, true, true, true, true, true, true, true, true, true, true, true, true, true, false, false, false, false, false, false, false, false] rfl rfl (any_of HT_.out (by kernel_rfl)) (fun _ _ _ h => h) (Or.inl ⟨by rfl, ?_⟩) ?_ ?_
    rotate_left
    · intro w'
      go_simp
      with_reducible rfl
    rotate_left
    · simp only [Act.put, List.setIfInBounds_toArray, List.set_cons_zero, List.set_cons_succ, i64_w, i32_w]
      rfl
    refine pure_ (i := 44) (N := some 149) (v := ?_) (a' := ?_) #[true, true, true, true, true, true, true, true, true, true, true, true, true, true, true, true, true, true, true, true, true, true, true, true, true, true, true, true, true, true, true, true, true, true, true, true, true, true, true, true, true, true, true, true, true, false, false, false, false, false, false, false] rfl rfl (any_of HT_.out (by kernel_rfl)) (fun _ _ _ h => h) (Or.inl ⟨by rfl, ?_⟩) ?_ ?_
    rotate_left
    · intro w'
      go_simp
      with_reducible rfl
    rotate_left
    · simp only [Act.put, List.setIfInBounds_toArray, List.set_cons_zero, List.set_cons_succ, i64_w, i32_w]
      rfl
    refine take_ (i := 45) (N := some 150) (v := ?_) (a' := ?_) #[true, true, true, true, true, true, true, true, true, true, true, true, true, true, true, true, true, true, true, true, true, true, true, true, true, true, true, true, true, true, true, true, true, true, true, true, true, true, true, true, true, true, true, true, true, true, false, false, false, false, false, false] rfl rfl (take_ofW HT_.out HW_.out (by kernel_rfl)) (fun _ _ _ h => h) (Or.inl ⟨by rfl, ?_⟩) hHeld ?_ ?_
    rotate_left
    · rintro w' ⟨s0, s1, s2, s3, s4, s5, s6, s7, s8, s9⟩
      go_simp
      with_reducible rfl
    rotate_left
    · simp only [Act.put, List.setIfInBounds_toArray, List.set_cons_zero, List.set_cons_succ, i64_w, i32_w]
      rfl
    refine take_ (i := 47) (N := some 152) (v := ?_) (a' := ?_) #[true, true, true, true, true, true, true, true, true, true, true, true, true, true, true, true, true, true, true, true, true, true, true, true, true, true, true, true, true, true, true, true, true, true, true, true, true, true, true, true, true, true, true, true, true, true, false, true, false, false, false, false] rfl rfl (take_ofW HT_.out HW_.out (by kernel_rfl)) (fun _ _ _ h => h) (Or.inl ⟨by rfl, ?_⟩) hHeld ?_ ?_
    rotate_left
    · rintro w' ⟨s0, s1, s2, s3, s4, s5, s6, s7, s8, s9⟩
      go_simp
      with_reducible rfl
    rotate_left
    · simp only [Act.put, List.setIfInBounds_toArray, List.set_cons_zero, List.set_cons_succ, i64_w, i32_w]
      rfl
    refine one_ (i := 46) (N := some 151) #[true, true, true, true, true, true, true, true, true, true, true, true, true, true, true, true, true, true, true, true, true, true, true, true, true, true, true, true, true, true, true, true, true, true, true, true, true, true, true, true, true, true, true, true, true, true, true, true, false, false, false, false] rfl rfl (one_of HT_.out (by kernel_rfl)) (by decide) (fun K hK => ?_)
    refine goes_ Try.func54 (by kernel_rfl) rfl #[.agg #[.slice A2 l.length c2, .int .i64 p]] (by rfl) rfl rfl (by simp only [List.map_toArray, List.map_cons, List.map_nil]; rfl) ?_
    with_reducible refine (AC.out _ hHeld.1).mono ?_
    rintro e w17 ⟨rfl, hb⟩
    refine ⟨_, rfl, ?_⟩
    refine hK.out _ _ ⟨below_step hHeld.1 hb, cc1 (blk_below (HL7.out.get 1 rfl) (below_step hHeld.1 hb)), ck2 (blk_below (HL7.out.get 0 rfl) (below_step hHeld.1 hb)), ck2 (blk_below (HL7.out.get 2 rfl) (below_step hHeld.1 hb)), ck11 (blk_below (HL7.out.get 3 rfl) (below_step hHeld.1 hb)), ck11 (blk_below (HL7.out.get 4 rfl) (below_step hHeld.1 hb)), ck11 (blk_below (HL7.out.get 5 rfl) (below_step hHeld.1 hb)), ck11 (blk_below (HL7.out.get 6 rfl) (below_step hHeld.1 hb)), ck11 (blk_below (HL7.out.get 7 rfl) (below_step hHeld.1 hb)), ck11 (blk_below (HL7.out.get 8 rfl) (below_step hHeld.1 hb))⟩ (fun hHeld => ?_)
    clear hK K
    refine norm_ (a' := ?_) ?_ ?_
    rotate_left
    · show Act.put _ (some 151) _ = _
      simp only [Act.put, List.setIfInBounds_toArray, List.set_cons_zero, List.set_cons_succ, i64_w, i32_w]
      rfl
    refine one_ (i := 48) (N := some 153) #[true, true, true, true, true, true, true, true, true, true, true, true, true, true, true, true, true, true, true, true, true, true, true, true, true, true, true, true, true, true, true, true, true, true, true, true, true, true, true, true, true, true, true, true, true, true, true, true, true, false, false, false] rfl rfl (one_of HT_.out (by kernel_rfl)) (by decide) (fun K hK => ?_)
    refine goes_ Try.func55 (by kernel_rfl) rfl #[.agg #[.slice A l.length c, .int .i64 p]] (by rfl) rfl rfl (by simp only [List.map_toArray, List.map_cons, List.map_nil]; rfl) ?_
    with_reducible refine (RA.out _ hHeld.1).mono ?_
    rintro e w18 ⟨rfl, hb⟩
    have HB18 := Aside0.mk (below_step hHeld.1 hb)
    refine ⟨_, rfl, ?_⟩
    refine hK.out _ _ ⟨below_step hHeld.1 hb, cc1 (blk_below (HL7.out.get 1 rfl) (below_step hHeld.1 hb)), ck2 (blk_below (HL7.out.get 0 rfl) (below_step hHeld.1 hb)), ck2 (blk_below (HL7.out.get 2 rfl) (below_step hHeld.1 hb)), ck11 (blk_below (HL7.out.get 3 rfl) (below_step hHeld.1 hb)), ck11 (blk_below (HL7.out.get 4 rfl) (below_step hHeld.1 hb)), ck11 (blk_below (HL7.out.get 5 rfl) (below_step hHeld.1 hb)), ck11 (blk_below (HL7.out.get 6 rfl) (below_step hHeld.1 hb)), ck11 (blk_below (HL7.out.get 7 rfl) (below_step hHeld.1 hb)), ck11 (blk_below (HL7.out.get 8 rfl) (below_step hHeld.1 hb))⟩ (fun hHeld => ?_)
    clear hK K
    refine norm_ (a' := ?_) ?_ ?_
    rotate_left
    · show Act.put _ (some 153) _ = _
      simp only [Act.put, List.setIfInBounds_toArray, List.set_cons_zero, List.set_cons_succ, i64_w, i32_w]
      rfl
    refine pure_ (i := 49) (N := some 154) (v := ?_) (a' := ?_) #[true, true, true, true, true, true, true, true, true, true, true, true, true, true, true, true, true, true, true, true, true, true, true, true, true, true, true, true, true, true, true, true, true, true, true, true, true, true, true, true, true, true, true, true, true, true, true, true, true, true, false, false] rfl rfl (any_of HT_.out (by kernel_rfl)) (fun _ _ _ h => h) (Or.inl ⟨by rfl, ?_⟩) ?_ ?_
    rotate_left
    · intro w'
      go_simp
      with_reducible rfl
    rotate_left
    · simp only [Act.put, List.setIfInBounds_toArray, List.set_cons_zero, List.set_cons_succ, i64_w, i32_w]
      rfl
    refine pure_ (i := 50) (N := some 155) (v := ?_) (a' := ?_) #[true, true, true, true, true, true, true, true, true, true, true, true, true, true, true, true, true, true, true, true, true, true, true, true, true, true, true, true, true, true, true, true, true, true, true, true, true, true, true, true, true, true, true, true, true, true, true, true, true, true, true, false] rfl rfl (any_of HT_.out (by kernel_rfl)) (fun _ _ _ h => h) (Or.inl ⟨by rfl, ?_⟩) ?_ ?_
    rotate_left
    · intro w'
      go_simp
      with_reducible rfl
    rotate_left
    · simp only [Act.put, List.setIfInBounds_toArray, List.set_cons_zero, List.set_cons_succ, i64_w, i32_w]
      rfl
    refine last_ (i := 51) (N := none) #[true, true, true, true, true, true, true, true, true, true, true, true, true, true, true, true, true, true, true, true, true, true, true, true, true, true, true, true, true, true, true, true, true, true, true, true, true, true, true, true, true, true, true, true, true, true, true, true, true, true, true, true] rfl rfl (one_of HT_.out (by kernel_rfl)) (by decide) (fun K hK => ?_)
    refine skip_ (w1 := ?_) (by rfl) rfl ?_ ?_
    rotate_left
    · go_simp
      rfl
    refine hK.out _ _ ?_
    clear hK K
    refine done_ (done_of HT_.out (by kernel_rfl)) ?_
    refine onlyN_intro ?_
    go_wp2_with fail
    have hs18 := HB18.out.size
    have hK18 := blk_below HK7.out HB18.out
    have hG18 := blk_below (HL7.out.get 1 rfl) HB18.out
    refine ⟨by simp, .inl ⟨_, _, rfl, run_takeDeferred ((Below.heap_setCell _ _ _ D (Ne.symm hgD)).trans hK18), ?_⟩⟩
    refine ⟨.bool true, results_bool rfl _ _ (g + 1) true rfl ((World.putObj_heap_other hgD).trans (blk_put hG18 0 _ rfl)), rfl, ?_⟩
    have hW18 : Below w.heap.size w w18 := HWb.out.trans ((HB7.out.trans (HB18.out.mono HB7.out.size)).mono HWb.out.size)
    exact (hW18.setCell (show w.heap.size ≤ g + 1 by rw [← HG.out]; exact Nat.le_succ g) _).trans (belowK_b (w := w9) hwm9 _ D _ _ hD ((Below.heap_setCell _ _ _ D (Ne.symm hgD)).trans hK18) rfl rfl)
  case stop =>
    rintro D c2 pre W hD ⟨k, hk, hpre⟩ ⟨ys, y, h1, h2, h3⟩ hK
    exfalso
    apply h3
    have h4 : pre[ys.length]? = some y := by rw [h1]; simp
    rw [hpre, HXS.out] at h4
    have h5 : ys.length < k := by
      have := congrArg List.length (h1.symm.trans hpre)
      simp only [List.length_append, List.length_cons, List.length_nil, List.length_take] at this
      omega
    rw [List.getElem?_take_of_lt h5] at h4
    unfold allL at h4
    split at h4
    · rw [List.getD_eq_getElem?_getD, h4]; rfl
    · simp at h4
end Go.Proofs.Ytblooffiggciiaa.Ps
/- PsAj -/
namespace Go.Proofs.Ytblooffiggciiaa.Ps
open Go.RowKit Go.Shelf Go.Sort Go.Proofs.Ytblooffiggciiaa.PPs Go.Proofs.YtblooffiggciiaaW.PrintWords Go.Proofs.YtblooffiggciiaaW.PrintLast Go.Proofs.YtblooffiggciiaaW.PrintMore Go.Proofs.Ytblooffiggciiaa.Sh
set_option linter.unusedVariables false
set_option linter.unusedSimpArgs false
attribute [local go_sem] Go.Proofs.Ytblooffiggciiaa.Aid.isSome_setCell
attribute [local go_sem] Oper.semAt_some wide_fn
attribute [local go_sem high] eqC29
set_option maxHeartbeats 8000000 in
set_option maxRecDepth 100000 in
theorem use_in_false {w : World} {A : Option Addr} {c : Nat} {l : List S29} (hC : Kd.C k29 w A l.length l) (hcc : l.length ≤ c) (hl : l.length ≤ 10) (p a : Int) (hgd : gdb (l.map cv) p = false) :
    Calls Try.prog 8 #[.agg #[.slice A l.length c, .int .i64 p], .int .i64 a] w fun e w' => e = .returned (.bool true) ∧ Below w.heap.size w w' := by
  obtain ⟨g, hg⟩ : ∃ g, g = w.heap.size := ⟨_, rfl⟩
  have hB := b1 (b1 (Below.refl w.heap.size w) (.cells #[.slice A l.length c, .int .i64 p] 66)) (.cells #[.bool false] 4)
  have hL := ((BL.nil w).new (.cells #[.slice A l.length c, .int .i64 p] 66)).new (.cells #[.bool false] 4)
  rw [sz1, ← hg] at hL
  have HG := Aside0.mk hg
  have HC := Aside0.mk hC
  have HGD0 := Aside0.mk hgd
  clear hgd
  have hl2 : (l.length : Int) ≤ 10 := by omega
  have HA := Aside0.mk (alive_calls ((w.alloc (.cells #[.slice A l.length c, .int .i64 p] 66)).alloc (.cells #[.bool false] 4)))
  have HB := Aside0.mk hB
  have HL := Aside0.mk hL
  clear hg hC hB hL
  refine (callsIn_wide (n := 10)).1 ?_
  refine callsIn_of_wp_marks Try.func8 rfl (by trivial) ?_ rfl
  refine wpIn_wide.2 ?_
  simp only [Try.ntmps8, List.size_toArray, List.length_cons, List.length_nil, Nat.reduceAdd, Nat.reduceSub, Array.replicate_succ, Array.replicate_zero, List.push_toArray, List.append_toArray, List.nil_append, List.cons_append]
  go_wp2_with fail
  refine HA.out.mono ?_
  rw [← HG.out]
  rintro e w1 ⟨rfl, hb⟩
  have HL1 := Aside0.mk (HL.out.below hb)
  have HB1 := Aside0.mk (below_step HB.out hb)
  clear hb
  have hx := ck2 (HL1.out.get 0 rfl)
  have HP := Aside0.mk (program_calls (w := w1) (Kd.C_below HC.out HB1.out) hcc (by omega) p)
  go_wp2_with fail
  refine HP.out.mono ?_
  rintro e w2 ⟨v, rfl, hR, hb⟩
  obtain ⟨A2, c2, rfl⟩ := Kd.R_slice hR
  have hlm : (l.map cv).length = l.length := List.length_map ..
  have HP1 := Aside0.mk (Kd.R_reads' hR).2.1
  have hP2 := (Kd.R_reads' hR).2.2
  obtain ⟨L, hL⟩ : ∃ L, L = l.map cv := ⟨_, rfl⟩
  rw [← hL] at hlm HP1 hP2 ⊢
  have HLe := Aside0.mk hL
  have HLl := Aside0.mk hlm
  have hL10 : L.length ≤ 1000 := by omega
  rw [hlm] at HP1 hP2 ⊢
  have HB2 := Aside0.mk (b1 (below_step HB1.out hb) (.cells #[.slice A2 l.length c2, .int .i64 p] 70))
  have HL2 := Aside0.mk ((HL1.out.below hb).new (.cells #[.slice A2 l.length c2, .int .i64 p] 70))
  have HX2 := Aside0.mk (Kd.C_alloc hP2 (.cells #[.slice A2 l.length c2, .int .i64 p] 70))
  have HX2' := Aside0.mk (show Kd.C k34 (w2.alloc (.cells #[.slice A2 l.length c2, .int .i64 p] 70)) A2 L.length L by rw [hlm]; exact HX2.out)
  have HXc := Aside0.mk (show L.length ≤ c2 by rw [hlm]; exact HP1.out)
  clear hb hR hx hL hP2
  obtain ⟨u, hu⟩ : ∃ u, u = useL L p := ⟨_, rfl⟩
  obtain ⟨v, hv⟩ : ∃ v, v = againL L p a := ⟨_, rfl⟩
  obtain ⟨x, hx0⟩ : ∃ x, x = getL L p a := ⟨_, rfl⟩
  have HU := Aside0.mk hu
  have HV := Aside0.mk hv
  have HX0 := Aside0.mk hx0
  clear hu hv hx0
  have hx := ck2 (HL2.out.get 2 rfl)
  have HK := use_calls (c := c2) HX2'.out p hL10
  rw [← HU.out, hlm] at HK
  have HK := Aside0.mk HK
  go_wp2_with fail
  refine HK.out.mono ?_
  rintro e w3 ⟨rfl, hb⟩
  have HL3 := Aside0.mk ((HL2.out.below hb).new (.cells #[.int .i64 u.1.f0.f0, .int .i64 u.1.f0.f1, .int .i64 u.1.f0.f2, .bool u.1.f0.f3, .int .i64 u.1.f1.f0, .int .i64 u.1.f1.f1, .int .i64 u.1.f1.f2, .int .i64 u.1.f2, .int .i64 u.1.f3, .int .u32 u.1.f4, .int .i64 u.1.f5] 34))
  have HB3 := Aside0.mk (b1 (below_step HB2.out hb) (.cells #[.int .i64 u.1.f0.f0, .int .i64 u.1.f0.f1, .int .i64 u.1.f0.f2, .bool u.1.f0.f3, .int .i64 u.1.f1.f0, .int .i64 u.1.f1.f1, .int .i64 u.1.f1.f2, .int .i64 u.1.f2, .int .i64 u.1.f3, .int .u32 u.1.f4, .int .i64 u.1.f5] 34))
  have HX3' := Aside0.mk (Kd.C_alloc (Kd.C_below HX2'.out hb) (.cells #[.int .i64 u.1.f0.f0, .int .i64 u.1.f0.f1, .int .i64 u.1.f0.f2, .bool u.1.f0.f3, .int .i64 u.1.f1.f0, .int .i64 u.1.f1.f1, .int .i64 u.1.f1.f2, .int .i64 u.1.f2, .int .i64 u.1.f3, .int .u32 u.1.f4, .int .i64 u.1.f5] 34))
  clear hb hx HK HL2 HB2 HX2'
  unfold cs34
  have hx := ck2 (HL3.out.get 2 rfl)
  have HK := again_calls (c := c2) HX3'.out p a hL10
  rw [← HV.out, hlm] at HK
  have HK := Aside0.mk HK
  go_wp2_with fail
  refine HK.out.mono ?_
  rintro e w4 ⟨rfl, hb⟩
  have HL4 := Aside0.mk ((HL3.out.below hb).new (.cells #[.int .i64 v.1.f0.f0, .int .i64 v.1.f0.f1, .int .i64 v.1.f0.f2, .bool v.1.f0.f3, .int .i64 v.1.f1.f0, .int .i64 v.1.f1.f1, .int .i64 v.1.f1.f2, .int .i64 v.1.f2, .int .i64 v.1.f3, .int .u32 v.1.f4, .int .i64 v.1.f5] 34))
  have HB4 := Aside0.mk (b1 (below_step HB3.out hb) (.cells #[.int .i64 v.1.f0.f0, .int .i64 v.1.f0.f1, .int .i64 v.1.f0.f2, .bool v.1.f0.f3, .int .i64 v.1.f1.f0, .int .i64 v.1.f1.f1, .int .i64 v.1.f1.f2, .int .i64 v.1.f2, .int .i64 v.1.f3, .int .u32 v.1.f4, .int .i64 v.1.f5] 34))
  have HX4' := Aside0.mk (Kd.C_alloc (Kd.C_below HX3'.out hb) (.cells #[.int .i64 v.1.f0.f0, .int .i64 v.1.f0.f1, .int .i64 v.1.f0.f2, .bool v.1.f0.f3, .int .i64 v.1.f1.f0, .int .i64 v.1.f1.f1, .int .i64 v.1.f1.f2, .int .i64 v.1.f2, .int .i64 v.1.f3, .int .u32 v.1.f4, .int .i64 v.1.f5] 34))
  clear hb hx HK HL3 HB3 HX3'
  unfold cs34
  have hx := ck2 (HL4.out.get 2 rfl)
  have HK := get_calls (c := c2) HX4'.out p a
  rw [← HX0.out, hlm] at HK
  have HK := Aside0.mk HK
  go_wp2_with fail
  refine HK.out.mono ?_
  rintro e w5 ⟨rfl, hb⟩
  have HL5 := Aside0.mk ((HL4.out.below hb).new (.cells #[.int .i64 x.1.f0.f0, .int .i64 x.1.f0.f1, .int .i64 x.1.f0.f2, .bool x.1.f0.f3, .int .i64 x.1.f1.f0, .int .i64 x.1.f1.f1, .int .i64 x.1.f1.f2, .int .i64 x.1.f2, .int .i64 x.1.f3, .int .u32 x.1.f4, .int .i64 x.1.f5] 34))
  have HB5 := Aside0.mk (b1 (below_step HB4.out hb) (.cells #[.int .i64 x.1.f0.f0, .int .i64 x.1.f0.f1, .int .i64 x.1.f0.f2, .bool x.1.f0.f3, .int .i64 x.1.f1.f0, .int .i64 x.1.f1.f1, .int .i64 x.1.f1.f2, .int .i64 x.1.f2, .int .i64 x.1.f3, .int .u32 x.1.f4, .int .i64 x.1.f5] 34))
  have HX5' := Aside0.mk (Kd.C_alloc (Kd.C_below HX4'.out hb) (.cells #[.int .i64 x.1.f0.f0, .int .i64 x.1.f0.f1, .int .i64 x.1.f0.f2, .bool x.1.f0.f3, .int .i64 x.1.f1.f0, .int .i64 x.1.f1.f1, .int .i64 x.1.f1.f2, .int .i64 x.1.f2, .int .i64 x.1.f3, .int .u32 x.1.f4, .int .i64 x.1.f5] 34))
  clear hb hx HK HL4 HB4 HX4'
  unfold cs34
  have hx := ck2 (HL5.out.get 0 rfl)
  have HK := ruse_calls (Kd.C_below HC.out HB5.out) hcc (by omega) p
  rw [← HLe.out, ← HU.out] at HK
  have HK := Aside0.mk HK
  go_wp2_with fail
  refine HK.out.mono ?_
  rintro e w6 ⟨rfl, hb⟩
  have HL6 := Aside0.mk ((HL5.out.below hb).new (.cells #[.int .i64 u.1.f0.f0, .int .i64 u.1.f0.f1, .int .i64 u.1.f0.f2, .bool u.1.f0.f3, .int .i64 u.1.f1.f0, .int .i64 u.1.f1.f1, .int .i64 u.1.f1.f2, .int .i64 u.1.f2, .int .i64 u.1.f3, .int .u32 u.1.f4, .int .i64 u.1.f5] 29))
  have HB6 := Aside0.mk (b1 (below_step HB5.out hb) (.cells #[.int .i64 u.1.f0.f0, .int .i64 u.1.f0.f1, .int .i64 u.1.f0.f2, .bool u.1.f0.f3, .int .i64 u.1.f1.f0, .int .i64 u.1.f1.f1, .int .i64 u.1.f1.f2, .int .i64 u.1.f2, .int .i64 u.1.f3, .int .u32 u.1.f4, .int .i64 u.1.f5] 29))
  have HX6' := Aside0.mk (Kd.C_alloc (Kd.C_below HX5'.out hb) (.cells #[.int .i64 u.1.f0.f0, .int .i64 u.1.f0.f1, .int .i64 u.1.f0.f2, .bool u.1.f0.f3, .int .i64 u.1.f1.f0, .int .i64 u.1.f1.f1, .int .i64 u.1.f1.f2, .int .i64 u.1.f2, .int .i64 u.1.f3, .int .u32 u.1.f4, .int .i64 u.1.f5] 29))
  clear hb hx HK HL5 HB5 HX5'
  unfold cs34
  have hx := ck2 (HL6.out.get 0 rfl)
  have HK := ragain_calls (Kd.C_below HC.out HB6.out) hcc (by omega) p a
  rw [← HLe.out, ← HV.out] at HK
  have HK := Aside0.mk HK
  go_wp2_with fail
  refine HK.out.mono ?_
  rintro e w7 ⟨rfl, hb⟩
  have HL7 := Aside0.mk ((HL6.out.below hb).new (.cells #[.int .i64 v.1.f0.f0, .int .i64 v.1.f0.f1, .int .i64 v.1.f0.f2, .bool v.1.f0.f3, .int .i64 v.1.f1.f0, .int .i64 v.1.f1.f1, .int .i64 v.1.f1.f2, .int .i64 v.1.f2, .int .i64 v.1.f3, .int .u32 v.1.f4, .int .i64 v.1.f5] 29))
  have HB7 := Aside0.mk (b1 (below_step HB6.out hb) (.cells #[.int .i64 v.1.f0.f0, .int .i64 v.1.f0.f1, .int .i64 v.1.f0.f2, .bool v.1.f0.f3, .int .i64 v.1.f1.f0, .int .i64 v.1.f1.f1, .int .i64 v.1.f1.f2, .int .i64 v.1.f2, .int .i64 v.1.f3, .int .u32 v.1.f4, .int .i64 v.1.f5] 29))
  have HX7' := Aside0.mk (Kd.C_alloc (Kd.C_below HX6'.out hb) (.cells #[.int .i64 v.1.f0.f0, .int .i64 v.1.f0.f1, .int .i64 v.1.f0.f2, .bool v.1.f0.f3, .int .i64 v.1.f1.f0, .int .i64 v.1.f1.f1, .int .i64 v.1.f1.f2, .int .i64 v.1.f2, .int .i64 v.1.f3, .int .u32 v.1.f4, .int .i64 v.1.f5] 29))
  clear hb hx HK HL6 HB6 HX6'
  unfold cs34
  have hx := ck2 (HL7.out.get 0 rfl)
  have HK := rget_calls (Kd.C_below HC.out HB7.out) hcc (by omega) p a
  rw [← HLe.out, ← HX0.out] at HK
  have HK := Aside0.mk HK
  go_wp2_with fail
  refine HK.out.mono ?_
  rintro e w8 ⟨rfl, hb⟩
  have HL8 := Aside0.mk ((HL7.out.below hb).new (.cells #[.int .i64 x.1.f0.f0, .int .i64 x.1.f0.f1, .int .i64 x.1.f0.f2, .bool x.1.f0.f3, .int .i64 x.1.f1.f0, .int .i64 x.1.f1.f1, .int .i64 x.1.f1.f2, .int .i64 x.1.f2, .int .i64 x.1.f3, .int .u32 x.1.f4, .int .i64 x.1.f5] 29))
  have HB8 := Aside0.mk (b1 (below_step HB7.out hb) (.cells #[.int .i64 x.1.f0.f0, .int .i64 x.1.f0.f1, .int .i64 x.1.f0.f2, .bool x.1.f0.f3, .int .i64 x.1.f1.f0, .int .i64 x.1.f1.f1, .int .i64 x.1.f1.f2, .int .i64 x.1.f2, .int .i64 x.1.f3, .int .u32 x.1.f4, .int .i64 x.1.f5] 29))
  have HX8' := Aside0.mk (Kd.C_alloc (Kd.C_below HX7'.out hb) (.cells #[.int .i64 x.1.f0.f0, .int .i64 x.1.f0.f1, .int .i64 x.1.f0.f2, .bool x.1.f0.f3, .int .i64 x.1.f1.f0, .int .i64 x.1.f1.f1, .int .i64 x.1.f1.f2, .int .i64 x.1.f2, .int .i64 x.1.f3, .int .u32 x.1.f4, .int .i64 x.1.f5] 29))
  clear hb hx HK HL7 HB7 HX7'
  unfold cs34
  have hx := ck2 (HL8.out.get 2 rfl)
  obtain ⟨Wp, hWp⟩ : ∃ Wp, Wp = w8.alloc (.cells #[.int .i64 x.1.f0.f0, .int .i64 x.1.f0.f1, .int .i64 x.1.f0.f2, .bool x.1.f0.f3, .int .i64 x.1.f1.f0, .int .i64 x.1.f1.f1, .int .i64 x.1.f1.f2, .int .i64 x.1.f2, .int .i64 x.1.f3, .int .u32 x.1.f4, .int .i64 x.1.f5] 29) := ⟨_, rfl⟩
  rw [← hWp] at HL8 HB8 HX8' hx
  have HWp := Aside0.mk hWp
  clear hWp
  have HAl := all_calls (w := Wp.alloc (.cells #[.int .i64 0] 3)) (c := c2) (Kd.C_alloc HX8'.out _) HXc.out hL10 p
  rw [hlm, HWp.out] at HAl
  have hx2 := ck2 (blk_alloc (HL8.out.get 2 rfl) (.cells #[.int .i64 0] 3))
  rw [HWp.out] at hx2
  have HAl := Aside0.mk HAl
  clear hx
  go_wp2_with (first | (go_at_call 51; refine HAl.out.mono ?_; rintro e w9 ⟨Bs, gb, A9, c9, rfl, hbx⟩; have HBX := Aside0.mk hbx; clear hbx))
  obtain ⟨m, hm⟩ : ∃ m, m = w8.heap.size + 1 := ⟨_, rfl⟩
  have HM := Aside0.mk (show m = Wp.heap.size by rw [HWp.out, sz1]; exact hm)
  rw [← hm]
  clear hm hx2
  rw [← HWp.out] at HBX
  have hwm : w.heap.size ≤ m := by rw [HM.out]; exact HB8.out.size
  have hBs := HBX.out.hBs
  have hgb := HBX.out.hgb
  rw [sz1, ← HM.out] at hBs hgb
  have hBl := blk_lt HBX.out.box
  have hgl : gb < w9.heap.size := by obtain ⟨cs, t, h⟩ := HBX.out.gcell; exact blk_lt h
  have hm9 : m ≤ w9.heap.size := by omega
  have hctr : w9.heap[m]? = some (.cells #[.int .i64 ((([] : List S34).length : Nat) : Int)] 3 (0, 0)) := by
    have h := blk_below (blk_new Wp (.cells #[.int .i64 0] 3)) HBX.out.bel
    rw [← HM.out] at h
    exact h
  have hm10 := blk_lt hctr
  have hb9 : Below m Wp w9 := by
    rw [HM.out]
    exact (b1 (Below.refl Wp.heap.size Wp) (.cells #[.int .i64 0] 3)).trans (HBX.out.bel.mono (by rw [sz1]; exact Nat.le_succ _))
  obtain ⟨xs, hxs⟩ : ∃ xs, xs = allL L p := ⟨_, rfl⟩
  have hxl : xs.length ≤ l.length := by rw [hxs]; unfold allL; split; rw [hlm]; exact Nat.le_refl _; exact Nat.zero_le _
  rw [← hxs] at HBX
  have HXS := Aside0.mk hxs
  have HGD := HGD0
  rw [← HLe.out] at HGD
  clear hxs
  refine wp_cap fun T hT => ?_
  refine (wpIn_wide (n := 10)).1 ?_
  refine wpIn_rangeFunc_ownH (n := 10) rfl (by decide) (gf := 100) (lb := #[.pointer (some ⟨Bs, 0, none⟩)]) (by rw [hT.out]; rfl) (by trivial) (enters_of Try.func100 (by kernel_rfl) rfl)
    (values_stops 9 (by decide) (n₀ := m) HBX.out.box HBX.out.held hm9 (by omega))
    (fun h h' => Kp2.trans h h') (fun W l o o' hle ho hc hw => ⟨belowK_b (w := w9) hm9 W l o o' hle ho hc hw, World.putObj_heap_other (by omega), World.putObj_heap_other (by omega)⟩) (Below.refl _ _) (fun _ => rfl)
    (fun pre W => ((pre = L.take pre.length ∧ W.heap[m]? = some (.cells #[.int .i64 ((pre.length : Nat) : Int)] 3 (0, 0))) ∧ w9.heap.size ≤ W.heap.size) ∧ Below m Wp W)
    (fun e pre W => ∃ (ys : List S34) (y : S34), pre = ys ++ [y] ∧ ys.length < L.length ∧ y ≠ L.getD ys.length z34)
    (OwnFrom.and (fun s A B row hs hg hr => ⟨⟨hs.1.1, gb_blk hg hs.1.2 (fun e => by have := (hr _ e.symm).1; omega)⟩, Nat.le_trans hs.2 hg.size⟩) (ownFrom_below (Nat.le_of_eq HM.out) (by omega)))
    (fun e => fun s A B row hs hg hr => hs)
    ⟨⟨⟨rfl, hctr⟩, Nat.le_refl _⟩, hb9⟩
    (fun x a' W => ∃ B, w9.heap.size ≤ B ∧ a' = ({ tmps := (T.setIfInBounds 64 (.agg (cs34 x).toArray)).setIfInBounds 19 (.pointer (some ⟨B, 0, none⟩)), defers := [] } : Act) ∧ W.heap[B]? = some (.cells (cs34 x).toArray 34 (0, 0)))
    (fun x a' => fun s A B row hs hg hr => by obtain ⟨D, h1, h2, h3⟩ := hs; exact ⟨D, h1, h2, gb_blk hg h3 (fun e => by obtain ⟨_, o, ho, hc⟩ := hr _ e.symm; rw [h3] at ho; injection ho with ho; subst ho; exact Bool.noConfusion (show true = false from hc))⟩)
    ?assign ?body ?done ?stop
  case assign =>
    intro l2 pre x W K hI hK
    have hs := hI.1.2
    have hgs : m ≤ W.heap.size := by omega
    have ha : Below W.heap.size W (W.alloc (.cells (cs34 x).toArray 34)) := b1 (Below.refl _ _) _
    have HK := Aside0.mk (hK _ _ (KeepsFrom.of_grownBy (World.grownBy_alloc W _ none) (fun _ e => by cases e)) ⟨ha.mono hgs, Below.heap_alloc W _ Bs (by omega), Below.heap_alloc W _ gb (by omega)⟩ ⟨⟨⟨hI.1.1.1, blk_alloc hI.1.1.2 _⟩, by rw [sz1]; omega⟩, hI.2.trans (ha.mono hgs)⟩ ⟨W.heap.size, hs, rfl, blk_new W _⟩)
    clear hK ha
    rw [hT.out] at HK ⊢
    unfold cs34 at HK ⊢
    simp only [List.setIfInBounds_toArray, List.set_cons_zero, List.set_cons_succ] at HK
    gi_wp2
    exact HK.out
  case body =>
    rintro l2 pre x a' W hl2 ⟨r, hr⟩ hI ⟨D, hD, rfl, hP⟩ hpl
    have hgs : m ≤ W.heap.size := by have := hI.1.2; omega
    have HWB := Aside0.mk (show Below Wp.heap.size Wp W by rw [← HM.out]; exact hI.2)
    have HLW := Aside0.mk (HL8.out.below HWB.out)
    have HCW := Aside0.mk (show Kd.C k34 W A L.length L by
      have h := C_cv (Kd.C_below HC.out (HB8.out.trans (HWB.out.mono HB8.out.size)))
      rw [← HLe.out] at h
      rw [hlm]
      exact h)
    have HBC := Aside0.mk hI.1.1.2
    have HPP := Aside0.mk hP
    obtain ⟨n, hn⟩ : ∃ n, n = pre.length := ⟨_, rfl⟩
    have hnl : n < l.length := by omega
    rw [← hn] at HBC
    obtain ⟨ad, rfl, h0, h1, h2, h3, h4, h5, h6, h7, h8, h9, h10⟩ := at_T34 HCW.out (n : Int) (by omega) (by omega)
    obtain ⟨z, hz⟩ : ∃ z, z = rd_T34 L (n : Int) := ⟨_, rfl⟩
    rw [← hz] at h0 h1 h2 h3 h4 h5 h6 h7 h8 h9 h10
    have HZ := Aside0.mk (show L.getD pre.length z34 = z by rw [hz, ← hn]; unfold rd_T34; rw [Int.toNat_natCast])
    have HZ2 := Aside0.mk (show L.take (pre.length + 1) = L.take pre.length ++ [z] by
      rw [List.take_succ_eq_append_getElem (by omega), hz, rd34 L n (by omega)]
      simp only [hn])
    rw [Int.toNat_natCast] at h0 h1 h2 h3 h4 h5 h6 h7 h8 h9 h10
    have HA := Aside0.mk (fun W => d13_calls (w := W) x)
    have hlt : (n : Int) < (l.length : Int) := by omega
    have hge : decide ((l.length : Int) ≤ (n : Int)) = false := decide_eq_false (by omega)
    have hge2 : ¬ ((l.length : Int) ≤ (n : Int)) := by omega
    have hx := ck2 (HLW.out.get 0 rfl)
    have hr1 := cc1 (HLW.out.get 1 rfl)
    have hc := cc1 HBC.out
    have HN := Aside0.mk hn
    have HII := Aside0.mk hI
    unfold cs34 at hP HA HPP ⊢
    have hp := ck11 hP
    clear hz hn hI hP
    rw [hT.out]
    simp only [List.setIfInBounds_toArray, List.set_cons_zero, List.set_cons_succ]
    obtain ⟨b, hb⟩ : ∃ b, b = eqb x z := ⟨_, rfl⟩
    cases b with
    | true =>
      have HXZ := Aside0.mk ((eqb_iff x z).1 hb.symm)
      have hq : eqb x z = true := hb.symm
      clear hb
      gi_wp2
      have k1 := cell_regrown hx.1
      have k2 := cell_regrown hc.1
      have k3 := cell_regrown h0
      have k4 := cell_regrown h1
      have k5 := cell_regrown h2
      have k6 := cell_regrown h3
      have k7 := cell_regrown h4
      have k8 := cell_regrown h5
      have k9 := cell_regrown h6
      have k10 := cell_regrown h7
      have k11 := cell_regrown h8
      have k12 := cell_regrown h9
      have k13 := cell_regrown h10
      have k14 := cell_regrown hp.1
      have k15 := cell_regrown hp.2.1
      have k16 := cell_regrown hp.2.2.1
      have k17 := cell_regrown hp.2.2.2.1
      have k18 := cell_regrown hp.2.2.2.2.1
      have k19 := cell_regrown hp.2.2.2.2.2.1
      have k20 := cell_regrown hp.2.2.2.2.2.2.1
      have k21 := cell_regrown hp.2.2.2.2.2.2.2.1
      have k22 := cell_regrown hp.2.2.2.2.2.2.2.2.1
      have k23 := cell_regrown hp.2.2.2.2.2.2.2.2.2.1
      have k24 := cell_regrown hp.2.2.2.2.2.2.2.2.2.2
      refine round_quiet (by kernel_rfl) (by kernel_rfl) (by kernel_rfl) ?_
      repeat (quiet_step_in (first | exact CallsIn.regrown_of (callsIn_wide.2 (HA.out _))))
      refine wpQuietIn_nil ?_
      intro _ hw'
      obtain ⟨⟨dq, osq⟩, hw''⟩ := hw'
      subst hw''
      have hgr := below_regrown W dq osq
      obtain ⟨W7, hW7⟩ : ∃ W7, W7 = grow (redrawn W dq) osq := ⟨_, rfl⟩
      rw [← hW7] at hgr ⊢
      clear hW7 k1 k2 k3 k4 k5 k6 k7 k8 k9 k10 k11 k12 k13 k14 k15 k16 k17 k18 k19 k20 k21 k22 k23 k24 hx hr1 hc hp h0 h1 h2 h3 h4 h5 h6 h7 h8 h9 h10
      have HB7 := Aside0.mk hgr
      have BC7 := Aside0.mk (blk_below HBC.out hgr)
      have hc := cc1 BC7.out
      have hr1 := cc1 ((HLW.out.below hgr).get 1 rfl)
      clear hgr
      gi_wp2
      have hz7 := HB7.out.size
      have hz8 := HII.out.1.2
      have hst : ∀ (v : Value) k, k ≠ m → ((W7.setCell ⟨m, 0, none⟩ v).heap[k]? = W7.heap[k]?) := fun v k hk => Below.heap_setCell _ _ _ k hk
      refine ⟨kf_set (kf_below _ HB7.out) (by show m < _; omega) _, ⟨(HB7.out.mono hgs).setCell (Nat.le_refl m) _, (hst _ Bs (by omega)).trans (HB7.out.block Bs (by omega)), (hst _ gb (by omega)).trans (HB7.out.block gb (by omega))⟩, ⟨⟨⟨?_, ?_⟩, ?_⟩, (HII.out.2.trans (HB7.out.mono hgs)).setCell (Nat.le_refl m) _⟩⟩
      · have e : (pre ++ [x]).length = pre.length + 1 := by simp
        rw [e, HZ2.out, HXZ.out, ← HII.out.1.1.1]
      · refine (blk_put BC7.out 0 _ rfl).trans ?_
        have e : (pre ++ [x]).length = n + 1 := by rw [HN.out]; simp
        rw [e]
        rfl
      · have := HII.out.1.2
        simpa [World.setCell] using Nat.le_trans this hz7
    | false =>
      have HXZ := Aside0.mk (show ¬ x = z from fun h => by rw [(eqb_iff x z).2 h] at hb; exact Bool.noConfusion hb)
      have hq : eqb x z = false := hb.symm
      clear hb
      gi_wp2
      have k1 := cell_regrown hx.1
      have k2 := cell_regrown hc.1
      have k3 := cell_regrown h0
      have k4 := cell_regrown h1
      have k5 := cell_regrown h2
      have k6 := cell_regrown h3
      have k7 := cell_regrown h4
      have k8 := cell_regrown h5
      have k9 := cell_regrown h6
      have k10 := cell_regrown h7
      have k11 := cell_regrown h8
      have k12 := cell_regrown h9
      have k13 := cell_regrown h10
      have k14 := cell_regrown hp.1
      have k15 := cell_regrown hp.2.1
      have k16 := cell_regrown hp.2.2.1
      have k17 := cell_regrown hp.2.2.2.1
      have k18 := cell_regrown hp.2.2.2.2.1
      have k19 := cell_regrown hp.2.2.2.2.2.1
      have k20 := cell_regrown hp.2.2.2.2.2.2.1
      have k21 := cell_regrown hp.2.2.2.2.2.2.2.1
      have k22 := cell_regrown hp.2.2.2.2.2.2.2.2.1
      have k23 := cell_regrown hp.2.2.2.2.2.2.2.2.2.1
      have k24 := cell_regrown hp.2.2.2.2.2.2.2.2.2.2
      refine round_quiet (by kernel_rfl) (by kernel_rfl) (by kernel_rfl) ?_
      repeat (quiet_step_in (first | exact CallsIn.regrown_of (callsIn_wide.2 (HA.out _))))
      refine wpQuietIn_nil ?_
      intro _ hw'
      obtain ⟨⟨dq, osq⟩, hw''⟩ := hw'
      subst hw''
      have hgr := below_regrown W dq osq
      obtain ⟨W7, hW7⟩ : ∃ W7, W7 = grow (redrawn W dq) osq := ⟨_, rfl⟩
      rw [← hW7] at hgr ⊢
      clear hW7 k1 k2 k3 k4 k5 k6 k7 k8 k9 k10 k11 k12 k13 k14 k15 k16 k17 k18 k19 k20 k21 k22 k23 k24 hx hr1 hc hp h0 h1 h2 h3 h4 h5 h6 h7 h8 h9 h10
      have HB7 := Aside0.mk hgr
      have BC7 := Aside0.mk (blk_below HBC.out hgr)
      have hc := cc1 BC7.out
      have hr1 := cc1 ((HLW.out.below hgr).get 1 rfl)
      clear hgr
      gi_wp2
      have hz8 := blk_lt (HL8.out.get 1 rfl)
      rw [← HM.out] at hz8
      refine ⟨kf_set (kf_below _ HB7.out) (by show g + 1 < _; omega) _, pre, x, rfl, by omega, ?_⟩
      rw [HZ.out]
      exact HXZ.out
  case done =>
    rintro D ys W hD rfl hI hK
    have HWB := Aside0.mk (show Below Wp.heap.size Wp W by rw [← HM.out]; exact hI.2)
    have HLW := Aside0.mk (HL8.out.below HWB.out)
    have HXW := Aside0.mk (Kd.C_below HX8'.out HWB.out)
    have HCW := Aside0.mk (Kd.C_below HC.out (HB8.out.trans (HWB.out.mono HB8.out.size)))
    have HBC := Aside0.mk hI.1.1.2
    have HKD := Aside0.mk hK
    clear hK hI
    rw [hT.out]
    have k1 := fun d os => ck2 (blk_regrown (HLW.out.get 0 rfl) d os)
    have k2 := fun d os => ck2 (blk_regrown (HLW.out.get 2 rfl) d os)
    have k3 := fun d os => ck1 (blk_regrown HBC.out d os)
    have GS := Aside0.mk (fun (W2 : World) (hb : Below W.heap.size W W2) => setgood_calls (c := c2) (show Kd.C k34 W2 A2 L.length L from Kd.C_below HXW.out hb) p)
    have RG := Aside0.mk (fun (W2 : World) (hb : Below W.heap.size W W2) => rgood_calls (Kd.C_below HCW.out hb) hcc (by omega) p)
    rw [← HLe.out] at RG
    rw [hlm] at GS
    have HWb := Aside0.mk (show Below w.heap.size w W from HB8.out.trans (HWB.out.mono HB8.out.size))
    have hwm9 : w.heap.size ≤ w9.heap.size := Nat.le_trans hwm hm9
    have hdl := blk_lt HKD.out
    have hgl2 := blk_lt (HLW.out.get 1 rfl)
    have hgD : g + 1 ≠ D := by have := blk_lt (HL8.out.get 1 rfl); rw [← HM.out] at this; omega
    have hgd := HGD.out
    have e1 : errW u.2 = .iface 42 (.int .i64 1) := by rw [HU.out, use_false hgd]; rfl
    have e2 : errW v.2 = .iface 42 (.int .i64 1) := by rw [HV.out, again_false a hgd]; rfl
    have e3 : u.2.isNone = false := by rw [HU.out, use_false hgd]; rfl
    have e4 : v.2.isNone = false := by rw [HV.out, again_false a hgd]; rfl
    have e5 : ((ys.length : Nat) : Int) = 0 := by rw [HXS.out]; unfold allL; rw [if_neg (by rw [hgd]; simp)]; rfl
    rw [hgd] at GS RG
    rw [e5] at k3
    simp only [e1, e2, e3, e4]
    clear hgd e1 e2 e3 e4 e5
    go_wp2_with fail
    refine wp_region_quiet_below (by kernel_rfl) (by kernel_rfl) ?_
    repeat (quiet_step (first | exact Calls.regrown_of (GS.out _ (below_regrown W _ _)) | exact Calls.regrown_of (RG.out _ (below_regrown W _ _))))
    refine wpQuiet_nil ?_
    intro _ hw'
    obtain ⟨⟨dq, osq⟩, hw''⟩ := hw'
    subst hw''
    have hgr := below_regrown W dq osq
    obtain ⟨W7, hW7⟩ : ∃ W7, W7 = grow (redrawn W dq) osq := ⟨_, rfl⟩
    rw [← hW7] at hgr ⊢
    clear hW7 k1 k2 k3
    have HB7 := Aside0.mk hgr
    have HL7 := Aside0.mk (HLW.out.below hgr)
    have HX7 := Aside0.mk (Kd.C_below HXW.out hgr)
    have HC7 := Aside0.mk (Kd.C_below HCW.out hgr)
    have HK7 := Aside0.mk (blk_below HKD.out hgr)
    clear hgr
    go_wp2_with fail
    have DU := Aside0.mk (fun W2 => d13_calls (w := W2) u.1)
    have DV := Aside0.mk (fun W2 => d13_calls (w := W2) v.1)
    have DX := Aside0.mk (fun W2 => d13_calls (w := W2) x.1)
    unfold cs34 at DU DV DX
    have AC := Aside0.mk (fun (W2 : World) (hb : Below W7.heap.size W7 W2) => setactive_calls (c := c2) (show Kd.C k34 W2 A2 L.length L from Kd.C_below HX7.out hb) HXc.out hL10 p)
    have RA := Aside0.mk (fun (W2 : World) (hb : Below W7.heap.size W7 W2) => ractive_calls (Kd.C_below HC7.out hb) hcc (by omega) p)
    rw [← HLe.out] at RA
    rw [hlm] at AC
    obtain ⟨na, hna⟩ : ∃ na, na = cnt (allL L p) := ⟨_, rfl⟩
    rw [← hna] at AC RA
    clear hna
    have q1 := eqb_self u.1
    have q2 := eqb_self v.1
    have q3 := eqb_self x.1
    refine wp_normal ?_
    refine start_ (n := 52) (S := fun w' => Below W7.heap.size W7 w' ∧ (w'.cell? ⟨g + 1, 0, none⟩ = some (.bool false) ∧ w'.frozen? ⟨g + 1, 0, none⟩ = false) ∧ (w'.cell? ⟨g, 0, none⟩ = some (.slice A l.length c) ∧ w'.cell? ⟨g, 1, none⟩ = some (.int .i64 p)) ∧ (w'.cell? ⟨w2.heap.size, 0, none⟩ = some (.slice A2 l.length c2) ∧ w'.cell? ⟨w2.heap.size, 1, none⟩ = some (.int .i64 p)) ∧ (w'.cell? ⟨w3.heap.size, 0, none⟩ = some (.int .i64 u.1.f0.f0) ∧ w'.cell? ⟨w3.heap.size, 1, none⟩ = some (.int .i64 u.1.f0.f1) ∧ w'.cell? ⟨w3.heap.size, 2, none⟩ = some (.int .i64 u.1.f0.f2) ∧ w'.cell? ⟨w3.heap.size, 3, none⟩ = some (.bool u.1.f0.f3) ∧ w'.cell? ⟨w3.heap.size, 4, none⟩ = some (.int .i64 u.1.f1.f0) ∧ w'.cell? ⟨w3.heap.size, 5, none⟩ = some (.int .i64 u.1.f1.f1) ∧ w'.cell? ⟨w3.heap.size, 6, none⟩ = some (.int .i64 u.1.f1.f2) ∧ w'.cell? ⟨w3.heap.size, 7, none⟩ = some (.int .i64 u.1.f2) ∧ w'.cell? ⟨w3.heap.size, 8, none⟩ = some (.int .i64 u.1.f3) ∧ w'.cell? ⟨w3.heap.size, 9, none⟩ = some (.int .u32 u.1.f4) ∧ w'.cell? ⟨w3.heap.size, 10, none⟩ = some (.int .i64 u.1.f5)) ∧ (w'.cell? ⟨w4.heap.size, 0, none⟩ = some (.int .i64 v.1.f0.f0) ∧ w'.cell? ⟨w4.heap.size, 1, none⟩ = some (.int .i64 v.1.f0.f1) ∧ w'.cell? ⟨w4.heap.size, 2, none⟩ = some (.int .i64 v.1.f0.f2) ∧ w'.cell? ⟨w4.heap.size, 3, none⟩ = some (.bool v.1.f0.f3) ∧ w'.cell? ⟨w4.heap.size, 4, none⟩ = some (.int .i64 v.1.f1.f0) ∧ w'.cell? ⟨w4.heap.size, 5, none⟩ = some (.int .i64 v.1.f1.f1) ∧ w'.cell? ⟨w4.heap.size, 6, none⟩ = some (.int .i64 v.1.f1.f2) ∧ w'.cell? ⟨w4.heap.size, 7, none⟩ = some (.int .i64 v.1.f2) ∧ w'.cell? ⟨w4.heap.size, 8, none⟩ = some (.int .i64 v.1.f3) ∧ w'.cell? ⟨w4.heap.size, 9, none⟩ = some (.int .u32 v.1.f4) ∧ w'.cell? ⟨w4.heap.size, 10, none⟩ = some (.int .i64 v.1.f5)) ∧ (w'.cell? ⟨w5.heap.size, 0, none⟩ = some (.int .i64 x.1.f0.f0) ∧ w'.cell? ⟨w5.heap.size, 1, none⟩ = some (.int .i64 x.1.f0.f1) ∧ w'.cell? ⟨w5.heap.size, 2, none⟩ = some (.int .i64 x.1.f0.f2) ∧ w'.cell? ⟨w5.heap.size, 3, none⟩ = some (.bool x.1.f0.f3) ∧ w'.cell? ⟨w5.heap.size, 4, none⟩ = some (.int .i64 x.1.f1.f0) ∧ w'.cell? ⟨w5.heap.size, 5, none⟩ = some (.int .i64 x.1.f1.f1) ∧ w'.cell? ⟨w5.heap.size, 6, none⟩ = some (.int .i64 x.1.f1.f2) ∧ w'.cell? ⟨w5.heap.size, 7, none⟩ = some (.int .i64 x.1.f2) ∧ w'.cell? ⟨w5.heap.size, 8, none⟩ = some (.int .i64 x.1.f3) ∧ w'.cell? ⟨w5.heap.size, 9, none⟩ = some (.int .u32 x.1.f4) ∧ w'.cell? ⟨w5.heap.size, 10, none⟩ = some (.int .i64 x.1.f5)) ∧ (w'.cell? ⟨w6.heap.size, 0, none⟩ = some (.int .i64 u.1.f0.f0) ∧ w'.cell? ⟨w6.heap.size, 1, none⟩ = some (.int .i64 u.1.f0.f1) ∧ w'.cell? ⟨w6.heap.size, 2, none⟩ = some (.int .i64 u.1.f0.f2) ∧ w'.cell? ⟨w6.heap.size, 3, none⟩ = some (.bool u.1.f0.f3) ∧ w'.cell? ⟨w6.heap.size, 4, none⟩ = some (.int .i64 u.1.f1.f0) ∧ w'.cell? ⟨w6.heap.size, 5, none⟩ = some (.int .i64 u.1.f1.f1) ∧ w'.cell? ⟨w6.heap.size, 6, none⟩ = some (.int .i64 u.1.f1.f2) ∧ w'.cell? ⟨w6.heap.size, 7, none⟩ = some (.int .i64 u.1.f2) ∧ w'.cell? ⟨w6.heap.size, 8, none⟩ = some (.int .i64 u.1.f3) ∧ w'.cell? ⟨w6.heap.size, 9, none⟩ = some (.int .u32 u.1.f4) ∧ w'.cell? ⟨w6.heap.size, 10, none⟩ = some (.int .i64 u.1.f5)) ∧ (w'.cell? ⟨w7.heap.size, 0, none⟩ = some (.int .i64 v.1.f0.f0) ∧ w'.cell? ⟨w7.heap.size, 1, none⟩ = some (.int .i64 v.1.f0.f1) ∧ w'.cell? ⟨w7.heap.size, 2, none⟩ = some (.int .i64 v.1.f0.f2) ∧ w'.cell? ⟨w7.heap.size, 3, none⟩ = some (.bool v.1.f0.f3) ∧ w'.cell? ⟨w7.heap.size, 4, none⟩ = some (.int .i64 v.1.f1.f0) ∧ w'.cell? ⟨w7.heap.size, 5, none⟩ = some (.int .i64 v.1.f1.f1) ∧ w'.cell? ⟨w7.heap.size, 6, none⟩ = some (.int .i64 v.1.f1.f2) ∧ w'.cell? ⟨w7.heap.size, 7, none⟩ = some (.int .i64 v.1.f2) ∧ w'.cell? ⟨w7.heap.size, 8, none⟩ = some (.int .i64 v.1.f3) ∧ w'.cell? ⟨w7.heap.size, 9, none⟩ = some (.int .u32 v.1.f4) ∧ w'.cell? ⟨w7.heap.size, 10, none⟩ = some (.int .i64 v.1.f5)) ∧ (w'.cell? ⟨w8.heap.size, 0, none⟩ = some (.int .i64 x.1.f0.f0) ∧ w'.cell? ⟨w8.heap.size, 1, none⟩ = some (.int .i64 x.1.f0.f1) ∧ w'.cell? ⟨w8.heap.size, 2, none⟩ = some (.int .i64 x.1.f0.f2) ∧ w'.cell? ⟨w8.heap.size, 3, none⟩ = some (.bool x.1.f0.f3) ∧ w'.cell? ⟨w8.heap.size, 4, none⟩ = some (.int .i64 x.1.f1.f0) ∧ w'.cell? ⟨w8.heap.size, 5, none⟩ = some (.int .i64 x.1.f1.f1) ∧ w'.cell? ⟨w8.heap.size, 6, none⟩ = some (.int .i64 x.1.f1.f2) ∧ w'.cell? ⟨w8.heap.size, 7, none⟩ = some (.int .i64 x.1.f2) ∧ w'.cell? ⟨w8.heap.size, 8, none⟩ = some (.int .i64 x.1.f3) ∧ w'.cell? ⟨w8.heap.size, 9, none⟩ = some (.int .u32 x.1.f4) ∧ w'.cell? ⟨w8.heap.size, 10, none⟩ = some (.int .i64 x.1.f5))) (ds := [51]) #[false, false, false, false, false, false, false, false, false, false, false, false, false, false, false, false, false, false, false, false, false, false, false, false, false, false, false, false, false, false, false, false, false, false, false, false, false, false, false, false, false, false, false, false, false, false, false, false, false, false, false, false] (by kernel_rfl) rfl rfl ⟨below_drew1 (Below.refl _ _), cc1 (blk_below (HL7.out.get 1 rfl) (below_drew1 (Below.refl _ _))), ck2 (blk_below (HL7.out.get 0 rfl) (below_drew1 (Below.refl _ _))), ck2 (blk_below (HL7.out.get 2 rfl) (below_drew1 (Below.refl _ _))), ck11 (blk_below (HL7.out.get 3 rfl) (below_drew1 (Below.refl _ _))), ck11 (blk_below (HL7.out.get 4 rfl) (below_drew1 (Below.refl _ _))), ck11 (blk_below (HL7.out.get 5 rfl) (below_drew1 (Below.refl _ _))), ck11 (blk_below (HL7.out.get 6 rfl) (below_drew1 (Below.refl _ _))), ck11 (blk_below (HL7.out.get 7 rfl) (below_drew1 (Below.refl _ _))), ck11 (blk_below (HL7.out.get 8 rfl) (below_drew1 (Below.refl _ _)))⟩ (fun hHeld => ?_)
    refine with_tabW useR.tab20 useR.bits20 (fun HT_ HW_ => ?_)
    refine pure_ (i := 0) (N := some 105) (v := ?_) (a' := ?_) #[true, false, false, false, false, false, false, false, false, false, false, false, false, false, false, false, false, false, false, false, false, false, false, false, false, false, false, false, false, false, false, false, false, false, false, false, false, false, false, false, false, false, false, false, false, false, false, false, false, false, false, false] rfl rfl (any_of HT_.out (by kernel_rfl)) (fun _ _ _ h => h) (Or.inl ⟨by rfl, ?_⟩) ?_ ?_
    rotate_left
    · intro w'
      go_simp
      with_reducible rfl
    rotate_left
    · simp only [Act.put, List.setIfInBounds_toArray, List.set_cons_zero, List.set_cons_succ, i64_w, i32_w]
      rfl
    refine pure_ (i := 1) (N := some 106) (v := ?_) (a' := ?_) #[true, true, false, false, false, false, false, false, false, false, false, false, false, false, false, false, false, false, false, false, false, false, false, false, false, false, false, false, false, false, false, false, false, false, false, false, false, false, false, false, false, false, false, false, false, false, false, false, false, false, false, false] rfl rfl (any_of HT_.out (by kernel_rfl)) (fun _ _ _ h => h) (Or.inl ⟨by rfl, ?_⟩) ?_ ?_
    rotate_left
    · intro w'
      go_simp
      with_reducible rfl
    rotate_left
    · simp only [Act.put, List.setIfInBounds_toArray, List.set_cons_zero, List.set_cons_succ, i64_w, i32_w]
      rfl
    refine pure_ (i := 2) (N := some 107) (v := ?_) (a' := ?_) #[true, true, true, false, false, false, false, false, false, false, false, false, false, false, false, false, false, false, false, false, false, false, false, false, false, false, false, false, false, false, false, false, false, false, false, false, false, false, false, false, false, false, false, false, false, false, false, false, false, false, false, false] rfl rfl (any_of HT_.out (by kernel_rfl)) (fun _ _ _ h => h) (Or.inl ⟨by rfl, ?_⟩) ?_ ?_
    rotate_left
    · intro w'
      go_simp
      with_reducible rfl
    rotate_left
    · simp only [Act.put, List.setIfInBounds_toArray, List.set_cons_zero, List.set_cons_succ, i64_w, i32_w]
      rfl
    refine pure_ (i := 3) (N := some 108) (v := ?_) (a' := ?_) #[true, true, true, true, false, false, false, false, false, false, false, false, false, false, false, false, false, false, false, false, false, false, false, false, false, false, false, false, false, false, false, false, false, false, false, false, false, false, false, false, false, false, false, false, false, false, false, false, false, false, false, false] rfl rfl (any_of HT_.out (by kernel_rfl)) (fun _ _ _ h => h) (Or.inl ⟨by rfl, ?_⟩) ?_ ?_
    rotate_left
    · intro w'
      go_simp
      with_reducible rfl
    rotate_left
    · simp only [Act.put, List.setIfInBounds_toArray, List.set_cons_zero, List.set_cons_succ, i64_w, i32_w]
      rfl
    refine pure_ (i := 4) (N := some 109) (v := ?_) (a' := ?_) #[true, true, true, true, true, false, false, false, false, false, false, false, false, false, false, false, false, false, false, false, false, false, false, false, false, false, false, false, false, false, false, false, false, false, false, false, false, false, false, false, false, false, false, false, false, false, false, false, false, false, false, false] rfl rfl (any_of HT_.out (by kernel_rfl)) (fun _ _ _ h => h) (Or.inl ⟨by rfl, ?_⟩) ?_ ?_
    rotate_left
    · intro w'
      go_simp
      with_reducible rfl
    rotate_left
    · simp only [Act.put, List.setIfInBounds_toArray, List.set_cons_zero, List.set_cons_succ, i64_w, i32_w]
      rfl
    refine pure_ (i := 5) (N := some 110) (v := ?_) (a' := ?_) #[true, true, true, true, true, true, false, false, false, false, false, false, false, false, false, false, false, false, false, false, false, false, false, false, false, false, false, false, false, false, false, false, false, false, false, false, false, false, false, false, false, false, false, false, false, false, false, false, false, false, false, false] rfl rfl (any_of HT_.out (by kernel_rfl)) (fun _ _ _ h => h) (Or.inl ⟨by rfl, ?_⟩) ?_ ?_
    rotate_left
    · intro w'
      go_simp
      with_reducible rfl
    rotate_left
    · simp only [Act.put, List.setIfInBounds_toArray, List.set_cons_zero, List.set_cons_succ, i64_w, i32_w]
      rfl
    refine pure_ (i := 6) (N := some 111) (v := ?_) (a' := ?_) #[true, true, true, true, true, true, true, false, false, false, false, false, false, false, false, false, false, false, false, false, false, false, false, false, false, false, false, false, false, false, false, false, false, false, false, false, false, false, false, false, false, false, false, false, false, false, false, false, false, false, false, false] rfl rfl (any_of HT_.out (by kernel_rfl)) (fun _ _ _ h => h) (Or.inl ⟨by rfl, ?_⟩) ?_ ?_
    rotate_left
    · intro w'
      go_simp
      with_reducible rfl
    rotate_left
    · simp only [Act.put, List.setIfInBounds_toArray, List.set_cons_zero, List.set_cons_succ, i64_w, i32_w]
      rfl
    refine pure_ (i := 7) (N := some 112) (v := ?_) (a' := ?_) #[true, true, true, true, true, true, true, true, false, false, false, false, false, false, false, false, false, false, false, false, false, false, false, false, false, false, false, false, false, false, false, false, false, false, false, false, false, false, false, false, false, false, false, false, false, false, false, false, false, false, false, false] rfl rfl (any_of HT_.out (by kernel_rfl)) (fun _ _ _ h => h) (Or.inl ⟨by rfl, ?_⟩) ?_ ?_
    rotate_left
    · intro w'
      go_simp
      with_reducible rfl
    rotate_left
    · simp only [Act.put, List.setIfInBounds_toArray, List.set_cons_zero, List.set_cons_succ, i64_w, i32_w]
      rfl
    refine pure_ (i := 8) (N := some 113) (v := ?_) (a' := ?_) #[true, true, true, true, true, true, true, true, true, false, false, false, false, false, false, false, false, false, false, false, false, false, false, false, false, false, false, false, false, false, false, false, false, false, false, false, false, false, false, false, false, false, false, false, false, false, false, false, false, false, false, false] rfl rfl (any_of HT_.out (by kernel_rfl)) (fun _ _ _ h => h) (Or.inl ⟨by rfl, ?_⟩) ?_ ?_
    rotate_left
    · intro w'
      go_simp
      with_reducible rfl
    rotate_left
    · simp only [Act.put, List.setIfInBounds_toArray, List.set_cons_zero, List.set_cons_succ, i64_w, i32_w]
      rfl
    refine pure_ (i := 9) (N := some 114) (v := ?_) (a' := ?_) #[true, true, true, true, true, true, true, true, true, true, false, false, false, false, false, false, false, false, false, false, false, false, false, false, false, false, false, false, false, false, false, false, false, false, false, false, false, false, false, false, false, false, false, false, false, false, false, false, false, false, false, false] rfl rfl (any_of HT_.out (by kernel_rfl)) (fun _ _ _ h => h) (Or.inl ⟨by rfl, ?_⟩) ?_ ?_
    rotate_left
    · intro w'
      go_simp
      with_reducible rfl
    rotate_left
    · simp only [Act.put, List.setIfInBounds_toArray, List.set_cons_zero, List.set_cons_succ, i64_w, i32_w]
      rfl
    refine pure_ (i := 10) (N := some 115) (v := ?_) (a' := ?_) #[true, true, true, true, true, true, true, true, true, true, true, false, false, false, false, false, false, false, false, false, false, false, false, false, false, false, false, false, false, false, false, false, false, false, false, false, false, false, false, false, false, false, false, false, false, false, false, false, false, false, false, false] rfl rfl (any_of HT_.out (by kernel_rfl)) (fun _ _ _ h => h) (Or.inl ⟨by rfl, ?_⟩) ?_ ?_
    rotate_left
    · intro w'
      go_simp
      with_reducible rfl
    rotate_left
    · simp only [Act.put, List.setIfInBounds_toArray, List.set_cons_zero, List.set_cons_succ, i64_w, i32_w]
      rfl
    refine pure_ (i := 11) (N := some 116) (v := ?_) (a' := ?_) #[true, true, true, true, true, true, true, true, true, true, true, true, false, false, false, false, false, false, false, false, false, false, false, false, false, false, false, false, false, false, false, false, false, false, false, false, false, false, false, false, false, false, false, false, false, false, false, false, false, false, false, false] rfl rfl (any_of HT_.out (by kernel_rfl)) (fun _ _ _ h => h) (Or.inl ⟨by rfl, ?_⟩) ?_ ?_
    rotate_left
    · intro w'
      go_simp
      with_reducible rfl
    rotate_left
    · simp only [Act.put, List.setIfInBounds_toArray, List.set_cons_zero, List.set_cons_succ, i64_w, i32_w]
      rfl
    refine pure_ (i := 12) (N := some 117) (v := ?_) (a' := ?_) #[true, true, true, true, true, true, true, true, true, true, true, true, true, false, false, false, false, false, false, false, false, false, false, false, false, false, false, false, false, false, false, false, false, false, false, false, false, false, false, false, false, false, false, false, false, false, false, false, false, false, false, false] rfl rfl (any_of HT_.out (by kernel_rfl)) (fun _ _ _ h => h) (Or.inl ⟨by rfl, ?_⟩) ?_ ?_
    rotate_left
    · intro w'
      go_simp
      with_reducible rfl
    rotate_left
    · simp only [Act.put, List.setIfInBounds_toArray, List.set_cons_zero, List.set_cons_succ, i64_w, i32_w]
      rfl
    refine pure_ (i := 13) (N := some 118) (v := ?_) (a' := ?_) #[true, true, true, true, true, true, true, true, true, true, true, true, true, true, false, false, false, false, false, false, false, false, false, false, false, false, false, false, false, false, false, false, false, false, false, false, false, false, false, false, false, false, false, false, false, false, false, false, false, false, false, false] rfl rfl (any_of HT_.out (by kernel_rfl)) (fun _ _ _ h => h) (Or.inl ⟨by rfl, ?_⟩) ?_ ?_
    rotate_left
    · intro w'
      go_simp
      with_reducible rfl
    rotate_left
    · simp only [Act.put, List.setIfInBounds_toArray, List.set_cons_zero, List.set_cons_succ, i64_w, i32_w]
      rfl
    refine one_ (i := 14) (N := some 119) #[true, true, true, true, true, true, true, true, true, true, true, true, true, true, true, false, false, false, false, false, false, false, false, false, false, false, false, false, false, false, false, false, false, false, false, false, false, false, false, false, false, false, false, false, false, false, false, false, false, false, false, false] rfl rfl (one_of HT_.out (by kernel_rfl)) (by decide) (fun K hK => ?_)
    refine goes_ Try.func15 (by kernel_rfl) rfl #[.iface 42 (.int .i64 1), .int .i64 1] (by rfl) rfl rfl (by simp only [List.map_toArray, List.map_cons, List.map_nil]; rfl) ?_
    with_reducible refine (is_calls _).mono ?_
    rintro e w10 ⟨rfl, hb⟩
    refine ⟨_, rfl, ?_⟩
    refine hK.out _ _ ⟨below_step hHeld.1 hb, cc1 (blk_below (HL7.out.get 1 rfl) (below_step hHeld.1 hb)), ck2 (blk_below (HL7.out.get 0 rfl) (below_step hHeld.1 hb)), ck2 (blk_below (HL7.out.get 2 rfl) (below_step hHeld.1 hb)), ck11 (blk_below (HL7.out.get 3 rfl) (below_step hHeld.1 hb)), ck11 (blk_below (HL7.out.get 4 rfl) (below_step hHeld.1 hb)), ck11 (blk_below (HL7.out.get 5 rfl) (below_step hHeld.1 hb)), ck11 (blk_below (HL7.out.get 6 rfl) (below_step hHeld.1 hb)), ck11 (blk_below (HL7.out.get 7 rfl) (below_step hHeld.1 hb)), ck11 (blk_below (HL7.out.get 8 rfl) (below_step hHeld.1 hb))⟩ (fun hHeld => ?_)
    clear hK K
    refine norm_ (a' := ?_) ?_ ?_
    rotate_left
    · show Act.put _ (some 119) _ = _
      simp only [Act.put, List.setIfInBounds_toArray, List.set_cons_zero, List.set_cons_succ, i64_w, i32_w]
      rfl
    refine pure_ (i := 15) (N := some 120) (v := ?_) (a' := ?_) #[true, true, true, true, true, true, true, true, true, true, true, true, true, true, true, true, false, false, false, false, false, false, false, false, false, false, false, false, false, false, false, false, false, false, false, false, false, false, false, false, false, false, false, false, false, false, false, false, false, false, false, false] rfl rfl (any_of HT_.out (by kernel_rfl)) (fun _ _ _ h => h) (Or.inl ⟨by rfl, ?_⟩) ?_ ?_
    rotate_left
    · intro w'
      go_simp
      with_reducible rfl
    rotate_left
    · simp only [Act.put, List.setIfInBounds_toArray, List.set_cons_zero, List.set_cons_succ, i64_w, i32_w]
      rfl
    refine pure_ (i := 16) (N := some 121) (v := ?_) (a' := ?_) #[true, true, true, true, true, true, true, true, true, true, true, true, true, true, true, true, true, false, false, false, false, false, false, false, false, false, false, false, false, false, false, false, false, false, false, false, false, false, false, false, false, false, false, false, false, false, false, false, false, false, false, false] rfl rfl (any_of HT_.out (by kernel_rfl)) (fun _ _ _ h => h) (Or.inl ⟨by rfl, ?_⟩) ?_ ?_
    rotate_left
    · intro w'
      go_simp
      with_reducible rfl
    rotate_left
    · simp only [Act.put, List.setIfInBounds_toArray, List.set_cons_zero, List.set_cons_succ, i64_w, i32_w]
      rfl
    refine one_ (i := 17) (N := some 122) #[true, true, true, true, true, true, true, true, true, true, true, true, true, true, true, true, true, true, false, false, false, false, false, false, false, false, false, false, false, false, false, false, false, false, false, false, false, false, false, false, false, false, false, false, false, false, false, false, false, false, false, false] rfl rfl (one_of HT_.out (by kernel_rfl)) (by decide) (fun K hK => ?_)
    refine goes_ Try.func15 (by kernel_rfl) rfl #[.iface 42 (.int .i64 1), .int .i64 1] (by rfl) rfl rfl (by simp only [List.map_toArray, List.map_cons, List.map_nil]; rfl) ?_
    with_reducible refine (is_calls _).mono ?_
    rintro e w11 ⟨rfl, hb⟩
    refine ⟨_, rfl, ?_⟩
    refine hK.out _ _ ⟨below_step hHeld.1 hb, cc1 (blk_below (HL7.out.get 1 rfl) (below_step hHeld.1 hb)), ck2 (blk_below (HL7.out.get 0 rfl) (below_step hHeld.1 hb)), ck2 (blk_below (HL7.out.get 2 rfl) (below_step hHeld.1 hb)), ck11 (blk_below (HL7.out.get 3 rfl) (below_step hHeld.1 hb)), ck11 (blk_below (HL7.out.get 4 rfl) (below_step hHeld.1 hb)), ck11 (blk_below (HL7.out.get 5 rfl) (below_step hHeld.1 hb)), ck11 (blk_below (HL7.out.get 6 rfl) (below_step hHeld.1 hb)), ck11 (blk_below (HL7.out.get 7 rfl) (below_step hHeld.1 hb)), ck11 (blk_below (HL7.out.get 8 rfl) (below_step hHeld.1 hb))⟩ (fun hHeld => ?_)
    clear hK K
    refine norm_ (a' := ?_) ?_ ?_
    rotate_left
    · show Act.put _ (some 122) _ = _
      simp only [Act.put, List.setIfInBounds_toArray, List.set_cons_zero, List.set_cons_succ, i64_w, i32_w]
      rfl
    refine pure_ (i := 18) (N := some 123) (v := ?_) (a' := ?_) #[true, true, true, true, true, true, true, true, true, true, true, true, true, true, true, true, true, true, true, false, false, false, false, false, false, false, false, false, false, false, false, false, false, false, false, false, false, false, false, false, false, false, false, false, false, false, false, false, false, false, false, false] rfl rfl (any_of HT_.out (by kernel_rfl)) (fun _ _ _ h => h) (Or.inl ⟨by rfl, ?_⟩) ?_ ?_
    rotate_left
    · intro w'
      go_simp
      with_reducible rfl
    rotate_left
    · simp only [Act.put, List.setIfInBounds_toArray, List.set_cons_zero, List.set_cons_succ, i64_w, i32_w]
      rfl
    refine pure_ (i := 19) (N := some 124) (v := ?_) (a' := ?_) #[true, true, true, true, true, true, true, true, true, true, true, true, true, true, true, true, true, true, true, true, false, false, false, false, false, false, false, false, false, false, false, false, false, false, false, false, false, false, false, false, false, false, false, false, false, false, false, false, false, false, false, false] rfl rfl (any_of HT_.out (by kernel_rfl)) (fun _ _ _ h => h) (Or.inl ⟨by rfl, ?_⟩) ?_ ?_
    rotate_left
    · intro w'
      go_simp
      with_reducible rfl
    rotate_left
    · simp only [Act.put, List.setIfInBounds_toArray, List.set_cons_zero, List.set_cons_succ, i64_w, i32_w]
      rfl
    refine pure_ (i := 20) (N := some 125) (v := ?_) (a' := ?_) #[true, true, true, true, true, true, true, true, true, true, true, true, true, true, true, true, true, true, true, true, true, false, false, false, false, false, false, false, false, false, false, false, false, false, false, false, false, false, false, false, false, false, false, false, false, false, false, false, false, false, false, false] rfl rfl (any_of HT_.out (by kernel_rfl)) (fun _ _ _ h => h) (Or.inl ⟨by rfl, ?_⟩) ?_ ?_
    rotate_left
    · intro w'
      go_simp
      with_reducible rfl
    rotate_left
    · simp only [Act.put, List.setIfInBounds_toArray, List.set_cons_zero, List.set_cons_succ, i64_w, i32_w]
      rfl
    refine pure_ (i := 21) (N := some 126) (v := ?_) (a' := ?_) #[true, true, true, true, true, true, true, true, true, true, true, true, true, true, true, true, true, true, true, true, true, true, false, false, false, false, false, false, false, false, false, false, false, false, false, false, false, false, false, false, false, false, false, false, false, false, false, false, false, false, false, false] rfl rfl (any_of HT_.out (by kernel_rfl)) (fun _ _ _ h => h) (Or.inl ⟨by rfl, ?_⟩) ?_ ?_
    rotate_left
    · intro w'
      go_simp
      with_reducible rfl
    rotate_left
    · simp only [Act.put, List.setIfInBounds_toArray, List.set_cons_zero, List.set_cons_succ, i64_w, i32_w]
      rfl
    refine take_ (i := 22) (N := some 127) (v := ?_) (a' := ?_) #[true, true, true, true, true, true, true, true, true, true, true, true, true, true, true, true, true, true, true, true, true, true, true, false, false, false, false, false, false, false, false, false, false, false, false, false, false, false, false, false, false, false, false, false, false, false, false, false, false, false, false, false] rfl rfl (take_ofW HT_.out HW_.out (by kernel_rfl)) (fun _ _ _ h => h) (Or.inl ⟨by rfl, ?_⟩) hHeld ?_ ?_
    rotate_left
    · rintro w' ⟨s0, s1, s2, s3, s4, s5, s6, s7, s8, s9⟩
      go_simp
      with_reducible rfl
    rotate_left
    · simp only [Act.put, List.setIfInBounds_toArray, List.set_cons_zero, List.set_cons_succ, i64_w, i32_w]
      rfl
    refine take_ (i := 24) (N := some 129) (v := ?_) (a' := ?_) #[true, true, true, true, true, true, true, true, true, true, true, true, true, true, true, true, true, true, true, true, true, true, true, false, true, false, false, false, false, false, false, false, false, false, false, false, false, false, false, false, false, false, false, false, false, false, false, false, false, false, false, false] rfl rfl (take_ofW HT_.out HW_.out (by kernel_rfl)) (fun _ _ _ h => h) (Or.inl ⟨by rfl, ?_⟩) hHeld ?_ ?_
    rotate_left
    · rintro w' ⟨s0, s1, s2, s3, s4, s5, s6, s7, s8, s9⟩
      go_simp
      with_reducible rfl
    rotate_left
    · simp only [Act.put, List.setIfInBounds_toArray, List.set_cons_zero, List.set_cons_succ, i64_w, i32_w]
      rfl
    refine one_ (i := 23) (N := some 128) #[true, true, true, true, true, true, true, true, true, true, true, true, true, true, true, true, true, true, true, true, true, true, true, true, true, false, false, false, false, false, false, false, false, false, false, false, false, false, false, false, false, false, false, false, false, false, false, false, false, false, false, false] rfl rfl (one_of HT_.out (by kernel_rfl)) (by decide) (fun K hK => ?_)
    refine goes_ Try.func16 (by kernel_rfl) rfl #[.agg #[.int .i64 u.1.f0.f0, .int .i64 u.1.f0.f1, .int .i64 u.1.f0.f2, .bool u.1.f0.f3, .int .i64 u.1.f1.f0, .int .i64 u.1.f1.f1, .int .i64 u.1.f1.f2, .int .i64 u.1.f2, .int .i64 u.1.f3, .int .u32 u.1.f4, .int .i64 u.1.f5]] (by rfl) rfl rfl (by simp only [List.map_toArray, List.map_cons, List.map_nil]; rfl) ?_
    with_reducible refine (DU.out _).mono ?_
    rintro e w14 ⟨rfl, hb⟩
    refine ⟨_, rfl, ?_⟩
    refine hK.out _ _ ⟨below_step hHeld.1 hb, cc1 (blk_below (HL7.out.get 1 rfl) (below_step hHeld.1 hb)), ck2 (blk_below (HL7.out.get 0 rfl) (below_step hHeld.1 hb)), ck2 (blk_below (HL7.out.get 2 rfl) (below_step hHeld.1 hb)), ck11 (blk_below (HL7.out.get 3 rfl) (below_step hHeld.1 hb)), ck11 (blk_below (HL7.out.get 4 rfl) (below_step hHeld.1 hb)), ck11 (blk_below (HL7.out.get 5 rfl) (below_step hHeld.1 hb)), ck11 (blk_below (HL7.out.get 6 rfl) (below_step hHeld.1 hb)), ck11 (blk_below (HL7.out.get 7 rfl) (below_step hHeld.1 hb)), ck11 (blk_below (HL7.out.get 8 rfl) (below_step hHeld.1 hb))⟩ (fun hHeld => ?_)
    clear hK K
    refine norm_ (a' := ?_) ?_ ?_
    rotate_left
    · show Act.put _ (some 128) _ = _
      simp only [Act.put, List.setIfInBounds_toArray, List.set_cons_zero, List.set_cons_succ, i64_w, i32_w]
      rfl
    refine pure_ (i := 25) (N := some 130) (v := ?_) (a' := ?_) #[true, true, true, true, true, true, true, true, true, true, true, true, true, true, true, true, true, true, true, true, true, true, true, true, true, true, false, false, false, false, false, false, false, false, false, false, false, false, false, false, false, false, false, false, false, false, false, false, false, false, false, false] rfl rfl (any_of HT_.out (by kernel_rfl)) (fun _ _ _ h => h) (Or.inl ⟨by rfl, ?_⟩) ?_ ?_
    rotate_left
    · intro w'
      go_simp
      with_reducible rfl
    rotate_left
    · simp only [Act.put, List.setIfInBounds_toArray, List.set_cons_zero, List.set_cons_succ, i64_w, i32_w]
      rfl
    refine pure_ (i := 26) (N := some 131) (v := ?_) (a' := ?_) #[true, true, true, true, true, true, true, true, true, true, true, true, true, true, true, true, true, true, true, true, true, true, true, true, true, true, true, false, false, false, false, false, false, false, false, false, false, false, false, false, false, false, false, false, false, false, false, false, false, false, false, false] rfl rfl (any_of HT_.out (by kernel_rfl)) (fun _ _ _ h => h) (Or.inl ⟨by rfl, ?_⟩) ?_ ?_
    rotate_left
    · intro w'
      go_simp
      with_reducible rfl
    rotate_left
    · simp only [Act.put, List.setIfInBounds_toArray, List.set_cons_zero, List.set_cons_succ, i64_w, i32_w]
      rfl
    refine pure_ (i := 27) (N := some 132) (v := ?_) (a' := ?_) #[true, true, true, true, true, true, true, true, true, true, true, true, true, true, true, true, true, true, true, true, true, true, true, true, true, true, true, true, false, false, false, false, false, false, false, false, false, false, false, false, false, false, false, false, false, false, false, false, false, false, false, false] rfl rfl (any_of HT_.out (by kernel_rfl)) (fun _ _ _ h => h) (Or.inl ⟨by rfl, ?_⟩) ?_ ?_
    rotate_left
    · intro w'
      go_simp
      with_reducible rfl
    rotate_left
    · simp only [Act.put, List.setIfInBounds_toArray, List.set_cons_zero, List.set_cons_succ, i64_w, i32_w]
      rfl
    refine take_ (i := 28) (N := some 133) (v := ?_) (a' := ?_) #[true, true, true, true, true, true, true, true, true, true, true, true, true, true, true, true, true, true, true, true, true, true, true, true, true, true, true, true, true, false, false, false, false, false, false, false, false, false, false, false, false, false, false, false, false, false, false, false, false, false, false, false] rfl rfl (take_ofW HT_.out HW_.out (by kernel_rfl)) (fun _ _ _ h => h) (Or.inl ⟨by rfl, ?_⟩) hHeld ?_ ?_
    rotate_left
    · rintro w' ⟨s0, s1, s2, s3, s4, s5, s6, s7, s8, s9⟩
      go_simp
      with_reducible rfl
    rotate_left
    · simp only [Act.put, List.setIfInBounds_toArray, List.set_cons_zero, List.set_cons_succ, i64_w, i32_w]
      rfl
    refine take_ (i := 30) (N := some 135) (v := ?_) (a' := ?_) #[true, true, true, true, true, true, true, true, true, true, true, true, true, true, true, true, true, true, true, true, true, true, true, true, true, true, true, true, true, false, true, false, false, false, false, false, false, false, false, false, false, false, false, false, false, false, false, false, false, false, false, false] rfl rfl (take_ofW HT_.out HW_.out (by kernel_rfl)) (fun _ _ _ h => h) (Or.inl ⟨by rfl, ?_⟩) hHeld ?_ ?_
    rotate_left
    · rintro w' ⟨s0, s1, s2, s3, s4, s5, s6, s7, s8, s9⟩
      go_simp
      with_reducible rfl
    rotate_left
    · simp only [Act.put, List.setIfInBounds_toArray, List.set_cons_zero, List.set_cons_succ, i64_w, i32_w]
      rfl
    refine one_ (i := 29) (N := some 134) #[true, true, true, true, true, true, true, true, true, true, true, true, true, true, true, true, true, true, true, true, true, true, true, true, true, true, true, true, true, true, true, false, false, false, false, false, false, false, false, false, false, false, false, false, false, false, false, false, false, false, false, false] rfl rfl (one_of HT_.out (by kernel_rfl)) (by decide) (fun K hK => ?_)
    refine goes_ Try.func16 (by kernel_rfl) rfl #[.agg #[.int .i64 v.1.f0.f0, .int .i64 v.1.f0.f1, .int .i64 v.1.f0.f2, .bool v.1.f0.f3, .int .i64 v.1.f1.f0, .int .i64 v.1.f1.f1, .int .i64 v.1.f1.f2, .int .i64 v.1.f2, .int .i64 v.1.f3, .int .u32 v.1.f4, .int .i64 v.1.f5]] (by rfl) rfl rfl (by simp only [List.map_toArray, List.map_cons, List.map_nil]; rfl) ?_
    with_reducible refine (DV.out _).mono ?_
    rintro e w15 ⟨rfl, hb⟩
    refine ⟨_, rfl, ?_⟩
    refine hK.out _ _ ⟨below_step hHeld.1 hb, cc1 (blk_below (HL7.out.get 1 rfl) (below_step hHeld.1 hb)), ck2 (blk_below (HL7.out.get 0 rfl) (below_step hHeld.1 hb)), ck2 (blk_below (HL7.out.get 2 rfl) (below_step hHeld.1 hb)), ck11 (blk_below (HL7.out.get 3 rfl) (below_step hHeld.1 hb)), ck11 (blk_below (HL7.out.get 4 rfl) (below_step hHeld.1 hb)), ck11 (blk_below (HL7.out.get 5 rfl) (below_step hHeld.1 hb)), ck11 (blk_below (HL7.out.get 6 rfl) (below_step hHeld.1 hb)), ck11 (blk_below (HL7.out.get 7 rfl) (below_step hHeld.1 hb)), ck11 (blk_below (HL7.out.get 8 rfl) (below_step hHeld.1 hb))⟩ (fun hHeld => ?_)
    clear hK K
    refine norm_ (a' := ?_) ?_ ?_
    rotate_left
    · show Act.put _ (some 134) _ = _
      simp only [Act.put, List.setIfInBounds_toArray, List.set_cons_zero, List.set_cons_succ, i64_w, i32_w]
      rfl
    refine pure_ (i := 31) (N := some 136) (v := ?_) (a' := ?_) #[true, true, true, true, true, true, true, true, true, true, true, true, true, true, true, true, true, true, true, true, true, true, true, true, true, true, true, true, true, true, true, true, false, false, false, false, false, false, false, false, false, false, false, false, false, false, false, false, false, false, false, false] rfl rfl (any_of HT_.out (by kernel_rfl)) (fun _ _ _ h => h) (Or.inl ⟨by rfl, ?_⟩) ?_ ?_
    rotate_left
    · intro w'
      go_simp
      with_reducible rfl
    rotate_left
    · simp only [Act.put, List.setIfInBounds_toArray, List.set_cons_zero, List.set_cons_succ, i64_w, i32_w]
      rfl
    refine pure_ (i := 32) (N := some 137) (v := ?_) (a' := ?_) #[true, true, true, true, true, true, true, true, true, true, true, true, true, true, true, true, true, true, true, true, true, true, true, true, true, true, true, true, true, true, true, true, true, false, false, false, false, false, false, false, false, false, false, false, false, false, false, false, false, false, false, false] rfl rfl (any_of HT_.out (by kernel_rfl)) (fun _ _ _ h => h) (Or.inl ⟨by rfl, ?_⟩) ?_ ?_
    rotate_left
    · intro w'
      go_simp
      with_reducible rfl
    rotate_left
    · simp only [Act.put, List.setIfInBounds_toArray, List.set_cons_zero, List.set_cons_succ, i64_w, i32_w]
      rfl
    refine pure_ (i := 33) (N := some 138) (v := ?_) (a' := ?_) #[true, true, true, true, true, true, true, true, true, true, true, true, true, true, true, true, true, true, true, true, true, true, true, true, true, true, true, true, true, true, true, true, true, true, false, false, false, false, false, false, false, false, false, false, false, false, false, false, false, false, false, false] rfl rfl (any_of HT_.out (by kernel_rfl)) (fun _ _ _ h => h) (Or.inl ⟨by rfl, ?_⟩) ?_ ?_
    rotate_left
    · intro w'
      go_simp
      with_reducible rfl
    rotate_left
    · simp only [Act.put, List.setIfInBounds_toArray, List.set_cons_zero, List.set_cons_succ, i64_w, i32_w]
      rfl
    refine take_ (i := 34) (N := some 139) (v := ?_) (a' := ?_) #[true, true, true, true, true, true, true, true, true, true, true, true, true, true, true, true, true, true, true, true, true, true, true, true, true, true, true, true, true, true, true, true, true, true, true, false, false, false, false, false, false, false, false, false, false, false, false, false, false, false, false, false] rfl rfl (take_ofW HT_.out HW_.out (by kernel_rfl)) (fun _ _ _ h => h) (Or.inl ⟨by rfl, ?_⟩) hHeld ?_ ?_
    rotate_left
    · rintro w' ⟨s0, s1, s2, s3, s4, s5, s6, s7, s8, s9⟩
      go_simp
      with_reducible rfl
    rotate_left
    · simp only [Act.put, List.setIfInBounds_toArray, List.set_cons_zero, List.set_cons_succ, i64_w, i32_w]
      rfl
    refine take_ (i := 36) (N := some 141) (v := ?_) (a' := ?_) #[true, true, true, true, true, true, true, true, true, true, true, true, true, true, true, true, true, true, true, true, true, true, true, true, true, true, true, true, true, true, true, true, true, true, true, false, true, false, false, false, false, false, false, false, false, false, false, false, false, false, false, false] rfl rfl (take_ofW HT_.out HW_.out (by kernel_rfl)) (fun _ _ _ h => h) (Or.inl ⟨by rfl, ?_⟩) hHeld ?_ ?_
    rotate_left
    · rintro w' ⟨s0, s1, s2, s3, s4, s5, s6, s7, s8, s9⟩
      go_simp
      with_reducible rfl
    rotate_left
    · simp only [Act.put, List.setIfInBounds_toArray, List.set_cons_zero, List.set_cons_succ, i64_w, i32_w]
      rfl
    refine one_ (i := 35) (N := some 140) #[true, true, true, true, true, true, true, true, true, true, true, true, true, true, true, true, true, true, true, true, true, true, true, true, true, true, true, true, true, true, true, true, true, true, true, true, true, false, false, false, false, false, false, false, false, false, false, false, false, false, false, false] rfl rfl (one_of HT_.out (by kernel_rfl)) (by decide) (fun K hK => ?_)
    refine goes_ Try.func16 (by kernel_rfl) rfl #[.agg #[.int .i64 x.1.f0.f0, .int .i64 x.1.f0.f1, .int .i64 x.1.f0.f2, .bool x.1.f0.f3, .int .i64 x.1.f1.f0, .int .i64 x.1.f1.f1, .int .i64 x.1.f1.f2, .int .i64 x.1.f2, .int .i64 x.1.f3, .int .u32 x.1.f4, .int .i64 x.1.f5]] (by rfl) rfl rfl (by simp only [List.map_toArray, List.map_cons, List.map_nil]; rfl) ?_
    with_reducible refine (DX.out _).mono ?_
    rintro e w16 ⟨rfl, hb⟩
    refine ⟨_, rfl, ?_⟩
    refine hK.out _ _ ⟨below_step hHeld.1 hb, cc1 (blk_below (HL7.out.get 1 rfl) (below_step hHeld.1 hb)), ck2 (blk_below (HL7.out.get 0 rfl) (below_step hHeld.1 hb)), ck2 (blk_below (HL7.out.get 2 rfl) (below_step hHeld.1 hb)), ck11 (blk_below (HL7.out.get 3 rfl) (below_step hHeld.1 hb)), ck11 (blk_below (HL7.out.get 4 rfl) (below_step hHeld.1 hb)), ck11 (blk_below (HL7.out.get 5 rfl) (below_step hHeld.1 hb)), ck11 (blk_below (HL7.out.get 6 rfl) (below_step hHeld.1 hb)), ck11 (blk_below (HL7.out.get 7 rfl) (below_step hHeld.1 hb)), ck11 (blk_below (HL7.out.get 8 rfl) (below_step hHeld.1 hb))⟩ (fun hHeld => ?_)
    clear hK K
    refine norm_ (a' := ?_) ?_ ?_
    rotate_left
    · show Act.put _ (some 140) _ = _
      simp only [Act.put, List.setIfInBounds_toArray, List.set_cons_zero, List.set_cons_succ, i64_w, i32_w]
      rfl
    refine pure_ (i := 37) (N := some 142) (v := ?_) (a' := ?_) #[true, true, true, true, true, true, true, true, true, true, true, true, true, true, true, true, true, true, true, true, true, true, true, true, true, true, true, true, true, true, true, true, true, true, true, true, true, true, false, false, false, false, false, false, false, false, false, false, false, false, false, false] rfl rfl (any_of HT_.out (by kernel_rfl)) (fun _ _ _ h => h) (Or.inl ⟨by rfl, ?_⟩) ?_ ?_
    rotate_left
    · intro w'
      go_simp
      with_reducible rfl
    rotate_left
    · simp only [Act.put, List.setIfInBounds_toArray, List.set_cons_zero, List.set_cons_succ, i64_w, i32_w]
      rfl
    refine pure_ (i := 38) (N := some 143) (v := ?_) (a' := ?_) #[true, true, true, true, true, true, true, true, true, true, true, true, true, true, true, true, true, true, true, true, true, true, true, true, true, true, true, true, true, true, true, true, true, true, true, true, true, true, true, false, false, false, false, false, false, false, false, false, false, false, false, false] rfl rfl (any_of HT_.out (by kernel_rfl)) (fun _ _ _ h => h) (Or.inl ⟨by rfl, ?_⟩) ?_ ?_
    rotate_left
    · intro w'
      go_simp
      with_reducible rfl
    rotate_left
    · simp only [Act.put, List.setIfInBounds_toArray, List.set_cons_zero, List.set_cons_succ, i64_w, i32_w]
      rfl
    refine pure_ (i := 39) (N := some 144) (v := ?_) (a' := ?_) #[true, true, true, true, true, true, true, true, true, true, true, true, true, true, true, true, true, true, true, true, true, true, true, true, true, true, true, true, true, true, true, true, true, true, true, true, true, true, true, true, false, false, false, false, false, false, false, false, false, false, false, false] rfl rfl (any_of HT_.out (by kernel_rfl)) (fun _ _ _ h => h) (Or.inl ⟨by rfl, ?_⟩) ?_ ?_
    rotate_left
    · intro w'
      go_simp
      with_reducible rfl
    rotate_left
    · simp only [Act.put, List.setIfInBounds_toArray, List.set_cons_zero, List.set_cons_succ, i64_w, i32_w]
      rfl
    refine pure_ (i := 40) (N := some 145) (v := ?_) (a' := ?_) #[true, true, true, true, true, true, true, true, true, true, true, true, true, true, true, true, true, true, true, true, true, true, true, true, true, true, true, true, true, true, true, true, true, true, true, true, true, true, true, true, true, false, false, false, false, false, false, false, false, false, false, false] rfl rfl (any_of HT_.out (by kernel_rfl)) (fun _ _ _ h => h) (Or.inl ⟨by rfl, ?_⟩) ?_ ?_
    rotate_left
    · intro w'
      go_simp
      with_reducible rfl
    rotate_left
    · simp only [Act.put, List.setIfInBounds_toArray, List.set_cons_zero, List.set_cons_succ, i64_w, i32_w]
      rfl
    refine pure_ (i := 41) (N := some 146) (v := ?_) (a' := ?_) #[true, true, true, true, true, true, true, true, true, true, true, true, true, true, true, true, true, true, true, true, true, true, true, true, true, true, true, true, true, true, true, true, true, true, true, true, true, true, true, true, true, true, false, false, false, false, false, false, false, false, false, false] rfl rfl (any_of HT_.out (by kernel_rfl)) (fun _ _ _ h => h) (Or.inl ⟨by rfl, ?_⟩) ?_ ?_
    rotate_left
    · intro w'
      go_simp
      with_reducible rfl
    rotate_left
    · simp only [Act.put, List.setIfInBounds_toArray, List.set_cons_zero, List.set_cons_succ, i64_w, i32_w]
      rfl
    refine pure_ (i := 42) (N := some 147) (v := ?_) (a' := ?_) #[true, true, true, true, true, true, true, true, true, true, true, true, true, true, true, true, true, true, true, true, true, true, true, true, true, true, true, true, true, true, true, true, true, true, true, true, true, true, true, true, true, true, true, false, false, false, false, false, false, false, false, false] rfl rfl (any_of HT_.out (by kernel_rfl)) (fun _ _ _ h => h) (Or.inl ⟨by rfl, ?_⟩) ?_ ?_
    rotate_left
    · intro w'
      go_simp
      with_reducible rfl
    rotate_left
    · simp only [Act.put, List.setIfInBounds_toArray, List.set_cons_zero, List.set_cons_succ, i64_w, i32_w]
      rfl
    refine pure_ (i := 43) (N := some 148) (v := ?_) (a' := ?_) #[true, true, true, true, true, true, true, true, true, true, true, true, true, true, true, true, true, true, true, true, true, true, true, true, true, true, true, true, true, true, true, true, true, true, true, true, true, true, true, true, true, true, true, true, false, false, false, false, false, false, false, false] rfl rfl (any_of HT_.out (by kernel_rfl)) (fun _ _ _ h => h) (Or.inl ⟨by rfl, ?_⟩) ?_ ?_
    rotate_left
    · intro w'
      go_simp
      with_reducible rfl
    rotate_left
    · simp only [Act.put, List.setIfInBounds_toArray, List.set_cons_zero, List.set_cons_succ, i64_w, i32_w]
      rfl
    refine pure_ (i := 44) (N := some 149) (v := ?_) (a' := ?_) #[true, true, true, true, true, true, true, true, true, true, true, true, true, true, true, true, true, true, true, true, true, true, true, true, true, true, true, true, true, true, true, true, true, true, true, true, true, true, true, true, true, true, true, true, true, false, false, false, false, false, false, false] rfl rfl (any_of HT_.out (by kernel_rfl)) (fun _ _ _ h => h) (Or.inl ⟨by rfl, ?_⟩) ?_ ?_
    rotate_left
    · intro w'
      go_simp
      with_reducible rfl
    rotate_left
    · simp only [Act.put, List.setIfInBounds_toArray, List.set_cons_zero, List.set_cons_succ, i64_w, i32_w]
      rfl
    refine take_ (i := 45) (N := some 150) (v := ?_) (a' := ?_) #[true, true, true, true, true, true, true, true, true, true, true, true, true, true, true, true, true, true, true, true, true, true, true, true, true, true, true, true, true, true, true, true, true, true, true, true, true, true, true, true, true, true, true, true, true, true, false, false, false, false, false, false] rfl rfl (take_ofW HT_.out HW_.out (by kernel_rfl)) (fun _ _ _ h => h) (Or.inl ⟨by rfl, ?_⟩) hHeld ?_ ?_
    rotate_left
    · rintro w' ⟨s0, s1, s2, s3, s4, s5, s6, s7, s8, s9⟩
      go_simp
      with_reducible rfl
    rotate_left
    · simp only [Act.put, List.setIfInBounds_toArray, List.set_cons_zero, List.set_cons_succ, i64_w, i32_w]
      rfl
    refine take_ (i := 47) (N := some 152) (v := ?_) (a' := ?_) #[true, true, true, true, true, true, true, true, true, true, true, true, true, true, true, true, true, true, true, true, true, true, true, true, true, true, true, true, true, true, true, true, true, true, true, true, true, true, true, true, true, true, true, true, true, true, false, true, false, false, false, false] rfl rfl (take_ofW HT_.out HW_.out (by kernel_rfl)) (fun _ _ _ h => h) (Or.inl ⟨by rfl, ?_⟩) hHeld ?_ ?_
    rotate_left
    · rintro w' ⟨s0, s1, s2, s3, s4, s5, s6, s7, s8, s9⟩
      go_simp
      with_reducible rfl
    rotate_left
    · simp only [Act.put, List.setIfInBounds_toArray, List.set_cons_zero, List.set_cons_succ, i64_w, i32_w]
      rfl
    refine one_ (i := 46) (N := some 151) #[true, true, true, true, true, true, true, true, true, true, true, true, true, true, true, true, true, true, true, true, true, true, true, true, true, true, true, true, true, true, true, true, true, true, true, true, true, true, true, true, true, true, true, true, true, true, true, true, false, false, false, false] rfl rfl (one_of HT_.out (by kernel_rfl)) (by decide) (fun K hK => ?_)
    refine goes_ Try.func54 (by kernel_rfl) rfl #[.agg #[.slice A2 l.length c2, .int .i64 p]] (by rfl) rfl rfl (by simp only [List.map_toArray, List.map_cons, List.map_nil]; rfl) ?_
    with_reducible refine (AC.out _ hHeld.1).mono ?_
    rintro e w17 ⟨rfl, hb⟩
    refine ⟨_, rfl, ?_⟩
    refine hK.out _ _ ⟨below_step hHeld.1 hb, cc1 (blk_below (HL7.out.get 1 rfl) (below_step hHeld.1 hb)), ck2 (blk_below (HL7.out.get 0 rfl) (below_step hHeld.1 hb)), ck2 (blk_below (HL7.out.get 2 rfl) (below_step hHeld.1 hb)), ck11 (blk_below (HL7.out.get 3 rfl) (below_step hHeld.1 hb)), ck11 (blk_below (HL7.out.get 4 rfl) (below_step hHeld.1 hb)), ck11 (blk_below (HL7.out.get 5 rfl) (below_step hHeld.1 hb)), ck11 (blk_below (HL7.out.get 6 rfl) (below_step hHeld.1 hb)), ck11 (blk_below (HL7.out.get 7 rfl) (below_step hHeld.1 hb)), ck11 (blk_below (HL7.out.get 8 rfl) (below_step hHeld.1 hb))⟩ (fun hHeld => ?_)
    clear hK K
    refine norm_ (a' := ?_) ?_ ?_
    rotate_left
    · show Act.put _ (some 151) _ = _
      simp only [Act.put, List.setIfInBounds_toArray, List.set_cons_zero, List.set_cons_succ, i64_w, i32_w]
      rfl
    refine one_ (i := 48) (N := some 153) #[true, true, true, true, true, true, true, true, true, true, true, true, true, true, true, true, true, true, true, true, true, true, true, true, true, true, true, true, true, true, true, true, true, true, true, true, true, true, true, true, true, true, true, true, true, true, true, true, true, false, false, false] rfl rfl (one_of HT_.out (by kernel_rfl)) (by decide) (fun K hK => ?_)
    refine goes_ Try.func55 (by kernel_rfl) rfl #[.agg #[.slice A l.length c, .int .i64 p]] (by rfl) rfl rfl (by simp only [List.map_toArray, List.map_cons, List.map_nil]; rfl) ?_
    with_reducible refine (RA.out _ hHeld.1).mono ?_
    rintro e w18 ⟨rfl, hb⟩
    have HB18 := Aside0.mk (below_step hHeld.1 hb)
    refine ⟨_, rfl, ?_⟩
    refine hK.out _ _ ⟨below_step hHeld.1 hb, cc1 (blk_below (HL7.out.get 1 rfl) (below_step hHeld.1 hb)), ck2 (blk_below (HL7.out.get 0 rfl) (below_step hHeld.1 hb)), ck2 (blk_below (HL7.out.get 2 rfl) (below_step hHeld.1 hb)), ck11 (blk_below (HL7.out.get 3 rfl) (below_step hHeld.1 hb)), ck11 (blk_below (HL7.out.get 4 rfl) (below_step hHeld.1 hb)), ck11 (blk_below (HL7.out.get 5 rfl) (below_step hHeld.1 hb)), ck11 (blk_below (HL7.out.get 6 rfl) (below_step hHeld.1 hb)), ck11 (blk_below (HL7.out.get 7 rfl) (below_step hHeld.1 hb)), ck11 (blk_below (HL7.out.get 8 rfl) (below_step hHeld.1 hb))⟩ (fun hHeld => ?_)
    clear hK K
    refine norm_ (a' := ?_) ?_ ?_
    rotate_left
    · show Act.put _ (some 153) _ = _
      simp only [Act.put, List.setIfInBounds_toArray, List.set_cons_zero, List.set_cons_succ, i64_w, i32_w]
      rfl
    refine pure_ (i := 49) (N := some 154) (v := ?_) (a' := ?_) #[true, true, true, true, true, true, true, true, true, true, true, true, true, true, true, true, true, true, true, true, true, true, true, true, true, true, true, true, true, true, true, true, true, true, true, true, true, true, true, true, true, true, true, true, true, true, true, true, true, true, false, false] rfl rfl (any_of HT_.out (by kernel_rfl)) (fun _ _ _ h => h) (Or.inl ⟨by rfl, ?_⟩) ?_ ?_
    rotate_left
    · intro w'
      go_simp
      with_reducible rfl
    rotate_left
    · simp only [Act.put, List.setIfInBounds_toArray, List.set_cons_zero, List.set_cons_succ, i64_w, i32_w]
      rfl
    refine pure_ (i := 50) (N := some 155) (v := ?_) (a' := ?_) #[true, true, true, true, true, true, true, true, true, true, true, true, true, true, true, true, true, true, true, true, true, true, true, true, true, true, true, true, true, true, true, true, true, true, true, true, true, true, true, true, true, true, true, true, true, true, true, true, true, true, true, false] rfl rfl (any_of HT_.out (by kernel_rfl)) (fun _ _ _ h => h) (Or.inl ⟨by rfl, ?_⟩) ?_ ?_
    rotate_left
    · intro w'
      go_simp
      with_reducible rfl
    rotate_left
    · simp only [Act.put, List.setIfInBounds_toArray, List.set_cons_zero, List.set_cons_succ, i64_w, i32_w]
      rfl
    refine last_ (i := 51) (N := none) #[true, true, true, true, true, true, true, true, true, true, true, true, true, true, true, true, true, true, true, true, true, true, true, true, true, true, true, true, true, true, true, true, true, true, true, true, true, true, true, true, true, true, true, true, true, true, true, true, true, true, true, true] rfl rfl (one_of HT_.out (by kernel_rfl)) (by decide) (fun K hK => ?_)
    refine skip_ (w1 := ?_) (by rfl) rfl ?_ ?_
    rotate_left
    · go_simp
      rfl
    refine hK.out _ _ ?_
    clear hK K
    refine done_ (done_of HT_.out (by kernel_rfl)) ?_
    refine onlyN_intro ?_
    go_wp2_with fail
    have hs18 := HB18.out.size
    have hK18 := blk_below HK7.out HB18.out
    have hG18 := blk_below (HL7.out.get 1 rfl) HB18.out
    refine ⟨by simp, .inl ⟨_, _, rfl, run_takeDeferred ((Below.heap_setCell _ _ _ D (Ne.symm hgD)).trans hK18), ?_⟩⟩
    refine ⟨.bool true, results_bool rfl _ _ (g + 1) true rfl ((World.putObj_heap_other hgD).trans (blk_put hG18 0 _ rfl)), rfl, ?_⟩
    have hW18 : Below w.heap.size w w18 := HWb.out.trans ((HB7.out.trans (HB18.out.mono HB7.out.size)).mono HWb.out.size)
    exact (hW18.setCell (show w.heap.size ≤ g + 1 by rw [← HG.out]; exact Nat.le_succ g) _).trans (belowK_b (w := w9) hwm9 _ D _ _ hD ((Below.heap_setCell _ _ _ D (Ne.symm hgD)).trans hK18) rfl rfl)
  case stop =>
    rintro D c2 pre W hD ⟨k, hk, hpre⟩ ⟨ys, y, h1, h2, h3⟩ hK
    exfalso
    apply h3
    have h4 : pre[ys.length]? = some y := by rw [h1]; simp
    rw [hpre, HXS.out] at h4
    have h5 : ys.length < k := by
      have := congrArg List.length (h1.symm.trans hpre)
      simp only [List.length_append, List.length_cons, List.length_nil, List.length_take] at this
      omega
    rw [List.getElem?_take_of_lt h5] at h4
    unfold allL at h4
    split at h4
    · rw [List.getD_eq_getElem?_getD, h4]; rfl
    · simp at h4
end Go.Proofs.Ytblooffiggciiaa.Ps
/- PsAk -/
namespace Go.Proofs.Ytblooffiggciiaa.Ps
open Go.RowKit Go.Proofs.Ytblooffiggciiaa.PPs Go.Proofs.YtblooffiggciiaaW.PrintWords Go.Proofs.YtblooffiggciiaaW.PrintLast Go.Proofs.YtblooffiggciiaaW.PrintMore Go.Proofs.Ytblooffiggciiaa.Sh
set_option linter.unusedVariables false
set_option linter.unusedSimpArgs false
set_option maxRecDepth 100000
attribute [local go_sem] Go.Proofs.Ytblooffiggciiaa.Aid.isSome_setCell
set_option maxHeartbeats 4000000 in
theorem use_out {w : World} {A : Option Addr} {c : Nat} {l : List S29} (hh : 10 < l.length) (p a : Int) :
    Calls Try.prog 8 #[.agg #[.slice A l.length c, .int .i64 p], .int .i64 a] w fun e w' => e = .returned (.bool true) ∧ Below w.heap.size w w' := by
  obtain ⟨g, hg⟩ : ∃ g, g = w.heap.size := ⟨_, rfl⟩
  have hB := b1 (b1 (Below.refl w.heap.size w) (.cells #[.slice A l.length c, .int .i64 p] 66)) (.cells #[.bool false] 4)
  have hL := ((BL.nil w).new (.cells #[.slice A l.length c, .int .i64 p] 66)).new (.cells #[.bool false] 4)
  rw [sz1, ← hg] at hL
  have HG := Aside0.mk hg
  have hl2 : 10 < (l.length : Int) := by omega
  have HA := Aside0.mk (alive_calls ((w.alloc (.cells #[.slice A l.length c, .int .i64 p] 66)).alloc (.cells #[.bool false] 4)))
  have HB := Aside0.mk hB
  have HL := Aside0.mk hL
  clear hg hB hL hh
  go_enter Try.func8, Try.ntmps8
  go_wp2_with fail
  refine HA.out.mono ?_
  rw [← HG.out]
  rintro e w1 ⟨rfl, hb⟩
  have HL1 := Aside0.mk (HL.out.below hb)
  have HB1 := Aside0.mk (below_step HB.out hb)
  clear hb
  have hx := ck2 (HL1.out.get 0 rfl)
  have hy := cc1 (HL1.out.get 1 rfl)
  go_wp2_with fail
  refine bodyPost_ret (results_bool rfl _ _ (g + 1) true rfl (blk_put (HL1.out.get 1 rfl) 0 _ rfl)) rfl ?_
  exact ⟨rfl, below_set HB1.out (show w.heap.size ≤ g + 1 by rw [← HG.out]; exact Nat.le_succ g)⟩
theorem pathsUse_walk (W : World) (A0_0 : Option Addr) (c0_0 : Nat) (l0_0 : (List ((Int × Int × Int × Bool) × (Int × Int × Int) × Int × Int × Int × Int))) (a0_1 : Int) (a1 : Int) (hc0_0 : l0_0.length ≤ c0_0) (hr0_0 : Kd.C (Kd.pair (Kd.pair (Kd.int .i64) (Kd.pair (Kd.int .i64) (Kd.pair (Kd.int .i64) Kd.bool))) (Kd.pair (Kd.pair (Kd.int .i64) (Kd.pair (Kd.int .i64) (Kd.int .i64))) (Kd.pair (Kd.int .i64) (Kd.pair (Kd.int .i64) (Kd.pair (Kd.int .u32) (Kd.int .i64)))))) W A0_0 l0_0.length l0_0) (w0_0 : (∀ z0_0 ∈ l0_0, (((Lit.int .i64 z0_0.1.1).wf = true ∧ (Lit.int .i64 z0_0.1.2.1).wf = true ∧ (Lit.int .i64 z0_0.1.2.2.1).wf = true ∧ True) ∧ ((Lit.int .i64 z0_0.2.1.1).wf = true ∧ (Lit.int .i64 z0_0.2.1.2.1).wf = true ∧ (Lit.int .i64 z0_0.2.1.2.2).wf = true) ∧ (Lit.int .i64 z0_0.2.2.1).wf = true ∧ (Lit.int .i64 z0_0.2.2.2.1).wf = true ∧ (Lit.int .u32 z0_0.2.2.2.2.1).wf = true ∧ (Lit.int .i64 z0_0.2.2.2.2.2).wf = true))) (w0_1 : (Lit.int .i64 a0_1).wf = true) (w1 : (Lit.int .i64 a1).wf = true) :
    Calls Try.prog 8 #[.agg #[.slice A0_0 l0_0.length c0_0, .int .i64 a0_1], .int .i64 a1] W fun e w' => e = .returned (.bool true) ∧ Below W.heap.size W w' := by
  have e1 : (l0_0.map un).length = l0_0.length := List.length_map ..
  by_cases h : l0_0.length ≤ 10
  · cases hg : gdb ((l0_0.map un).map cv) a0_1 with
    | true =>
      have := use_in_true (C_un hr0_0) (by rw [e1]; exact hc0_0) (by rw [e1]; exact h) a0_1 a1 hg
      rw [e1] at this
      exact this
    | false =>
      have := use_in_false (C_un hr0_0) (by rw [e1]; exact hc0_0) (by rw [e1]; exact h) a0_1 a1 hg
      rw [e1] at this
      exact this
  · have := use_out (w := W) (A := A0_0) (c := c0_0) (l := l0_0.map un) (by rw [e1]; omega) a0_1 a1
    rw [e1] at this
    exact this
end Go.Proofs.Ytblooffiggciiaa.Ps
/- Opn -/
namespace Go.Proofs.Ytblooffiggciiaa.Opn
open Go.RowKit Go.Deep Go.WideShapes Go.ChangeShapes Go.Proofs.YtblooffiggciiaaW.PrintWords
set_option linter.unusedVariables false
/-- What reads at type T is told by the kind d, and fits wf. -/
def Opn (P : Program) (w : World) (T : TypeId) {α : Type} (d : Kd α) (wf : α → Prop) : Prop :=
  ∀ {H : Type} {enc : TypeId × Value → H} {base : Nat} {spare : Nat → Bool} {held : Bool} {fuel : Nat} {cs : List Value} {y : DataW H × List MemPlace},
    DataW.trod enc P w base spare held fuel T cs = some y → ∃ x, d.K w x cs ∧ wf x

section
variable {P : Program} {w : World} {T e : TypeId} {α β : Type}
theorem int {k : IntKind} (hu : P.underlying T = some (.int k)) : Opn P w T (Kd.int k) (fun x => (Lit.int k x).wf = true) := by
  intro H enc base spare held fuel cs y h
  obtain ⟨n, rfl, _, wn⟩ := DataW.trod_int hu h
  exact ⟨n, rfl, wn⟩
theorem bool (hu : P.underlying T = some .bool) : Opn P w T Kd.bool (fun _ => True) := by
  intro H enc base spare held fuel cs y h
  obtain ⟨n, rfl, _⟩ := DataW.trod_bool hu h
  exact ⟨n, rfl, trivial⟩
theorem list_of {p : Nat → α → Prop} : ∀ (n : Nat), (∀ i, i < n → ∃ x, p i x) → ∃ xs : List α, xs.length = n ∧ ∀ i x, xs[i]? = some x → p i x
  | 0, _ => ⟨[], rfl, fun i x h => by simp at h⟩
  | n + 1, h => by
    obtain ⟨xs, hl, hp⟩ := list_of n (fun i hi => h i (by omega))
    obtain ⟨x, hx⟩ := h n (by omega)
    refine ⟨xs ++ [x], by simp [hl], fun i y hy => ?_⟩
    by_cases hi : i < xs.length
    · rw [List.getElem?_append_left hi] at hy; exact hp i y hy
    · rw [List.getElem?_append_right (by omega)] at hy
      have h0 : i - xs.length = 0 := by
        rcases Nat.eq_zero_or_pos (i - xs.length) with h' | h'
        · exact h'
        · rw [List.getElem?_eq_none (by simp; omega)] at hy; cases hy
      rw [h0] at hy
      simp at hy
      subst hy
      obtain rfl : i = n := by omega
      exact hx

theorem slice {q : Nat} {d : Kd α} {wf : α → Prop} (hu : P.underlying T = some (.slice e)) (hs : P.cellsOf e = d.sz) (he : Opn P w e d wf) :
    Opn P w T (Kd.slice q d) (fun xs => ∀ x ∈ xs, wf x) := by
  intro H enc base spare held fuel cs y h
  rcases open_slice hu h with ⟨rfl, rfl⟩ | ⟨a, len, cap, m, n, D, Pl, rfl, hb, hl, hm, hmm, rfl, hx⟩
  · exact ⟨[], ⟨none, 0, rfl, Nat.le_refl _, rfl, by simp, fun h => absurd h (Nat.lt_irrefl 0)⟩, by simp⟩
  · have hlm : len ≤ m := by rw [hmm]; split <;> omega
    obtain ⟨xs, hlen, hp⟩ := list_of (p := fun i x => (∃ cs', w.cells? base (a.add (i * P.cellsOf e)) (P.cellsOf e) = some cs' ∧ d.K w x cs') ∧ wf x) len (fun i hi => by
      obtain ⟨cs', h1, h2⟩ := hx i (by omega)
      obtain ⟨x, hk, hw⟩ := he h2
      exact ⟨x, ⟨cs', h1, hk⟩, hw⟩)
    refine ⟨xs, ⟨some a, cap, by rw [hlen], by omega, rfl, by unfold maxLen at hm; omega, fun _ => ⟨a, rfl, fun j x hj => ?_⟩⟩, fun x hx' => ?_⟩
    · obtain ⟨⟨cs', h1, hk⟩, _⟩ := hp j x hj
      refine ⟨cs', d.K_len hk, hk, fun i u hu' => ?_⟩
      obtain ⟨_, hl2, hc⟩ := World.cells?_some h1
      have hi : i < cs'.length := by
        rcases Nat.lt_or_ge i cs'.length with h' | h'
        · exact h'
        · rw [List.getElem?_eq_none h'] at hu'; cases hu'
      have := hc i (by omega)
      rw [Deep.add_add, hs] at this
      rw [this]; exact hu'
    · obtain ⟨i, hi⟩ := List.getElem?_of_mem hx'
      exact (hp i x hi).2

/-- A part of cells. -/
def At (w : World) (d : Kd α) (wf : α → Prop) (cs : List Value) : Prop := ∃ x, d.K w x cs ∧ wf x
theorem at_field {d : Kd α} {wf : α → Prop} {H : Type} {enc : TypeId × Value → H} {base : Nat} {spare : Nat → Bool} {held : Bool} {n i o s : Nat} {f : Field} {cs : List Value} {xs : List (DataW H × List MemPlace)}
    (h : DataW.trod enc P w base spare held n f.type ((cs.drop f.offset).take (P.cellsOf f.type)) = xs[i]?) (ho : f.offset = o) (ht : f.type = T) (hs : P.cellsOf T = s) (hi : i < xs.length) (he : Opn P w T d wf) : At w d wf ((cs.drop o).take s) := by
  subst ho; subst ht; subst hs
  rw [List.getElem?_eq_getElem hi] at h
  exact he h
theorem at_pair {a : Kd α} {b : Kd β} {wa : α → Prop} {wb : β → Prop} {cs : List Value} {o s t : Nat} (ha : At w a wa ((cs.drop o).take s)) (hb : At w b wb ((cs.drop (o + s)).take t)) :
    At w (Kd.pair a b) (fun x => wa x.1 ∧ wb x.2) ((cs.drop o).take (s + t)) := by
  obtain ⟨x, hx, w1⟩ := ha
  obtain ⟨y, hy, w2⟩ := hb
  refine ⟨(x, y), ⟨_, _, ?_, hx, hy⟩, w1, w2⟩
  rw [List.take_add, List.drop_drop]
theorem of_at {d : Kd α} {wf : α → Prop} {cs : List Value} {n : Nat} (h : At w d wf ((cs.drop 0).take n)) (hl : cs.length = n) : ∃ x, d.K w x cs ∧ wf x := by
  rw [List.drop_zero, List.take_of_length_le (by omega)] at h
  exact h
theorem array {n : Nat} {d : Kd α} {wf : α → Prop} (hp : 0 < d.sz) (hu : P.underlying T = some (.array n e)) (hs : P.cellsOf e = d.sz) (hT : P.cellsOf T = n * d.sz) (he : Opn P w e d wf) :
    Opn P w T (Kd.arr n d hp) (fun xs => ∀ x ∈ xs, wf x) := by
  intro H enc base spare held fuel cs y h
  obtain ⟨xs, m, rfl, rfl, hl, hlen, hf⟩ := DataW.trod_array hu h
  obtain ⟨zs, hz, hp⟩ := list_of (p := fun i x => d.K w x ((cs.drop (i * d.sz)).take d.sz) ∧ wf x) n (fun i hi => by
    have h0 := hf i hi
    rw [List.getElem?_eq_getElem (by omega), hs] at h0
    exact he h0)
  refine ⟨zs, ⟨hz, by rw [hl, hT, hz], fun m p hm => (hp m p hm).1⟩, fun x hx => ?_⟩
  obtain ⟨i, hi⟩ := List.getElem?_of_mem hx
  exact (hp i x hi).2
end
end Go.Proofs.Ytblooffiggciiaa.Opn
/- RowPathsUse -/
namespace Go.Proofs.Ytblooffiggciiaa.pathsUse
open Go.ChangeShapes Go.WideShapes Go.ChangeAt Go.RowKit Go.Proofs.YtblooffiggciiaaW.PrintWords
open Go.ChangeMaps (open_string shut_string)
set_option linter.unusedVariables false
set_option linter.unusedSimpArgs false
theorem own : ownKnob Try.prog.godebug = none := by kernel_rfl
theorem laidOut : laidOutB Try.prog = true := by kernel_rfl
theorem cells64 : Try.prog.cellsOf 64 = 1 := by kernel_rfl
theorem cells27 : Try.prog.cellsOf 27 = 1 := by kernel_rfl
theorem cells26 : Try.prog.cellsOf 26 = 1 := by kernel_rfl
theorem cells25 : Try.prog.cellsOf 25 = 3 := by kernel_rfl
theorem cells23 : Try.prog.cellsOf 23 = 4 := by kernel_rfl
theorem cells4 : Try.prog.cellsOf 4 = 1 := by kernel_rfl
theorem cells3 : Try.prog.cellsOf 3 = 1 := by kernel_rfl
theorem opn23 {W : World} : Opn.Opn Try.prog W 23 (Kd.pair (Kd.int .i64) (Kd.pair (Kd.int .i64) (Kd.pair (Kd.int .i64) Kd.bool))) (fun x => ((Lit.int .i64 x.1).wf = true ∧ (Lit.int .i64 x.2.1).wf = true ∧ (Lit.int .i64 x.2.2.1).wf = true ∧ True)) := by
  intro H enc base spare held fuel cs y h
  obtain ⟨xs, n, _, rfl, hl, hlen, hf⟩ := DataW.trod_struct Try.underlying23 h
  have g0 : Opn.At W (Kd.int .i64) (fun x => (Lit.int .i64 x).wf = true) ((cs.drop 0).take 1) := Opn.at_field (hf 0 _ rfl) rfl rfl cells3 (by rw [hlen]; decide) (Opn.int Try.underlying3)
  have g1 : Opn.At W (Kd.int .i64) (fun x => (Lit.int .i64 x).wf = true) ((cs.drop 1).take 1) := Opn.at_field (hf 1 _ rfl) rfl rfl cells3 (by rw [hlen]; decide) (Opn.int Try.underlying3)
  have g2 : Opn.At W (Kd.int .i64) (fun x => (Lit.int .i64 x).wf = true) ((cs.drop 2).take 1) := Opn.at_field (hf 2 _ rfl) rfl rfl cells3 (by rw [hlen]; decide) (Opn.int Try.underlying3)
  have g3 : Opn.At W Kd.bool (fun x => True) ((cs.drop 3).take 1) := Opn.at_field (hf 3 _ rfl) rfl rfl cells4 (by rw [hlen]; decide) (Opn.bool Try.underlying4)
  obtain ⟨x, hk, hw⟩ := Opn.of_at (Opn.at_pair g0 (Opn.at_pair g1 (Opn.at_pair g2 g3))) (hl.trans (by kernel_rfl))
  exact ⟨x, hk, hw⟩
theorem opn25 {W : World} : Opn.Opn Try.prog W 25 (Kd.pair (Kd.int .i64) (Kd.pair (Kd.int .i64) (Kd.int .i64))) (fun x => ((Lit.int .i64 x.1).wf = true ∧ (Lit.int .i64 x.2.1).wf = true ∧ (Lit.int .i64 x.2.2).wf = true)) := by
  intro H enc base spare held fuel cs y h
  obtain ⟨xs, n, _, rfl, hl, hlen, hf⟩ := DataW.trod_struct Try.underlying25 h
  have g0 : Opn.At W (Kd.int .i64) (fun x => (Lit.int .i64 x).wf = true) ((cs.drop 0).take 1) := Opn.at_field (hf 0 _ rfl) rfl rfl cells3 (by rw [hlen]; decide) (Opn.int Try.underlying3)
  have g1 : Opn.At W (Kd.int .i64) (fun x => (Lit.int .i64 x).wf = true) ((cs.drop 1).take 1) := Opn.at_field (hf 1 _ rfl) rfl rfl cells3 (by rw [hlen]; decide) (Opn.int Try.underlying3)
  have g2 : Opn.At W (Kd.int .i64) (fun x => (Lit.int .i64 x).wf = true) ((cs.drop 2).take 1) := Opn.at_field (hf 2 _ rfl) rfl rfl cells3 (by rw [hlen]; decide) (Opn.int Try.underlying3)
  obtain ⟨x, hk, hw⟩ := Opn.of_at (Opn.at_pair g0 (Opn.at_pair g1 g2)) (hl.trans (by kernel_rfl))
  exact ⟨x, hk, hw⟩
theorem opn29 {W : World} : Opn.Opn Try.prog W 29 (Kd.pair (Kd.pair (Kd.int .i64) (Kd.pair (Kd.int .i64) (Kd.pair (Kd.int .i64) Kd.bool))) (Kd.pair (Kd.pair (Kd.int .i64) (Kd.pair (Kd.int .i64) (Kd.int .i64))) (Kd.pair (Kd.int .i64) (Kd.pair (Kd.int .i64) (Kd.pair (Kd.int .u32) (Kd.int .i64)))))) (fun x => (((Lit.int .i64 x.1.1).wf = true ∧ (Lit.int .i64 x.1.2.1).wf = true ∧ (Lit.int .i64 x.1.2.2.1).wf = true ∧ True) ∧ ((Lit.int .i64 x.2.1.1).wf = true ∧ (Lit.int .i64 x.2.1.2.1).wf = true ∧ (Lit.int .i64 x.2.1.2.2).wf = true) ∧ (Lit.int .i64 x.2.2.1).wf = true ∧ (Lit.int .i64 x.2.2.2.1).wf = true ∧ (Lit.int .u32 x.2.2.2.2.1).wf = true ∧ (Lit.int .i64 x.2.2.2.2.2).wf = true)) := by
  intro H enc base spare held fuel cs y h
  obtain ⟨xs, n, _, rfl, hl, hlen, hf⟩ := DataW.trod_struct Try.underlying29 h
  have g0 : Opn.At W (Kd.pair (Kd.int .i64) (Kd.pair (Kd.int .i64) (Kd.pair (Kd.int .i64) Kd.bool))) (fun x => ((Lit.int .i64 x.1).wf = true ∧ (Lit.int .i64 x.2.1).wf = true ∧ (Lit.int .i64 x.2.2.1).wf = true ∧ True)) ((cs.drop 0).take 4) := Opn.at_field (hf 0 _ rfl) rfl rfl cells23 (by rw [hlen]; decide) opn23
  have g1 : Opn.At W (Kd.pair (Kd.int .i64) (Kd.pair (Kd.int .i64) (Kd.int .i64))) (fun x => ((Lit.int .i64 x.1).wf = true ∧ (Lit.int .i64 x.2.1).wf = true ∧ (Lit.int .i64 x.2.2).wf = true)) ((cs.drop 4).take 3) := Opn.at_field (hf 1 _ rfl) rfl rfl cells25 (by rw [hlen]; decide) opn25
  have g2 : Opn.At W (Kd.int .i64) (fun x => (Lit.int .i64 x).wf = true) ((cs.drop 7).take 1) := Opn.at_field (hf 2 _ rfl) rfl rfl cells26 (by rw [hlen]; decide) (Opn.int Try.underlying26)
  have g3 : Opn.At W (Kd.int .i64) (fun x => (Lit.int .i64 x).wf = true) ((cs.drop 8).take 1) := Opn.at_field (hf 3 _ rfl) rfl rfl cells3 (by rw [hlen]; decide) (Opn.int Try.underlying3)
  have g4 : Opn.At W (Kd.int .u32) (fun x => (Lit.int .u32 x).wf = true) ((cs.drop 9).take 1) := Opn.at_field (hf 4 _ rfl) rfl rfl cells27 (by rw [hlen]; decide) (Opn.int Try.underlying27)
  have g5 : Opn.At W (Kd.int .i64) (fun x => (Lit.int .i64 x).wf = true) ((cs.drop 10).take 1) := Opn.at_field (hf 5 _ rfl) rfl rfl cells3 (by rw [hlen]; decide) (Opn.int Try.underlying3)
  obtain ⟨x, hk, hw⟩ := Opn.of_at (Opn.at_pair g0 (Opn.at_pair g1 (Opn.at_pair g2 (Opn.at_pair g3 (Opn.at_pair g4 g5))))) (hl.trans (by kernel_rfl))
  exact ⟨x, hk, hw⟩
theorem opn64 {W : World} : Opn.Opn Try.prog W 64 (Kd.slice 29 (Kd.pair (Kd.pair (Kd.int .i64) (Kd.pair (Kd.int .i64) (Kd.pair (Kd.int .i64) Kd.bool))) (Kd.pair (Kd.pair (Kd.int .i64) (Kd.pair (Kd.int .i64) (Kd.int .i64))) (Kd.pair (Kd.int .i64) (Kd.pair (Kd.int .i64) (Kd.pair (Kd.int .u32) (Kd.int .i64))))))) (fun x => (∀ zx ∈ x, (((Lit.int .i64 zx.1.1).wf = true ∧ (Lit.int .i64 zx.1.2.1).wf = true ∧ (Lit.int .i64 zx.1.2.2.1).wf = true ∧ True) ∧ ((Lit.int .i64 zx.2.1.1).wf = true ∧ (Lit.int .i64 zx.2.1.2.1).wf = true ∧ (Lit.int .i64 zx.2.1.2.2).wf = true) ∧ (Lit.int .i64 zx.2.2.1).wf = true ∧ (Lit.int .i64 zx.2.2.2.1).wf = true ∧ (Lit.int .u32 zx.2.2.2.2.1).wf = true ∧ (Lit.int .i64 zx.2.2.2.2.2).wf = true))) := Opn.slice Try.underlying64 (by kernel_rfl) opn29
theorem opn66 {W : World} : Opn.Opn Try.prog W 66 (Kd.pair (Kd.slice 29 (Kd.pair (Kd.pair (Kd.int .i64) (Kd.pair (Kd.int .i64) (Kd.pair (Kd.int .i64) Kd.bool))) (Kd.pair (Kd.pair (Kd.int .i64) (Kd.pair (Kd.int .i64) (Kd.int .i64))) (Kd.pair (Kd.int .i64) (Kd.pair (Kd.int .i64) (Kd.pair (Kd.int .u32) (Kd.int .i64))))))) (Kd.int .i64)) (fun x => ((∀ zx1 ∈ x.1, (((Lit.int .i64 zx1.1.1).wf = true ∧ (Lit.int .i64 zx1.1.2.1).wf = true ∧ (Lit.int .i64 zx1.1.2.2.1).wf = true ∧ True) ∧ ((Lit.int .i64 zx1.2.1.1).wf = true ∧ (Lit.int .i64 zx1.2.1.2.1).wf = true ∧ (Lit.int .i64 zx1.2.1.2.2).wf = true) ∧ (Lit.int .i64 zx1.2.2.1).wf = true ∧ (Lit.int .i64 zx1.2.2.2.1).wf = true ∧ (Lit.int .u32 zx1.2.2.2.2.1).wf = true ∧ (Lit.int .i64 zx1.2.2.2.2.2).wf = true)) ∧ (Lit.int .i64 x.2).wf = true)) := by
  intro H enc base spare held fuel cs y h
  obtain ⟨xs, n, _, rfl, hl, hlen, hf⟩ := DataW.trod_struct Try.underlying66 h
  have g0 : Opn.At W (Kd.slice 29 (Kd.pair (Kd.pair (Kd.int .i64) (Kd.pair (Kd.int .i64) (Kd.pair (Kd.int .i64) Kd.bool))) (Kd.pair (Kd.pair (Kd.int .i64) (Kd.pair (Kd.int .i64) (Kd.int .i64))) (Kd.pair (Kd.int .i64) (Kd.pair (Kd.int .i64) (Kd.pair (Kd.int .u32) (Kd.int .i64))))))) (fun x => (∀ zx ∈ x, (((Lit.int .i64 zx.1.1).wf = true ∧ (Lit.int .i64 zx.1.2.1).wf = true ∧ (Lit.int .i64 zx.1.2.2.1).wf = true ∧ True) ∧ ((Lit.int .i64 zx.2.1.1).wf = true ∧ (Lit.int .i64 zx.2.1.2.1).wf = true ∧ (Lit.int .i64 zx.2.1.2.2).wf = true) ∧ (Lit.int .i64 zx.2.2.1).wf = true ∧ (Lit.int .i64 zx.2.2.2.1).wf = true ∧ (Lit.int .u32 zx.2.2.2.2.1).wf = true ∧ (Lit.int .i64 zx.2.2.2.2.2).wf = true))) ((cs.drop 0).take 1) := Opn.at_field (hf 0 _ rfl) rfl rfl cells64 (by rw [hlen]; decide) opn64
  have g1 : Opn.At W (Kd.int .i64) (fun x => (Lit.int .i64 x).wf = true) ((cs.drop 1).take 1) := Opn.at_field (hf 1 _ rfl) rfl rfl cells3 (by rw [hlen]; decide) (Opn.int Try.underlying3)
  obtain ⟨x, hk, hw⟩ := Opn.of_at (Opn.at_pair g0 g1) (hl.trans (by kernel_rfl))
  exact ⟨x, hk, hw⟩
set_option maxRecDepth 100000 in
theorem lifted (os : Os) (started : os.Started) (H : Type) (enc : TypeId × Value → H) :
    ReturnsInHanded {} Try.checked os 8 .any (Rows.pathsUseSpec.pre6 enc Try.prog Try.f8 Rows.pathsUseRow.domain false) (Rows.pathsUseSpec.post enc Try.prog Try.f8 false true false false) := by
  refine returnsInHanded_of_change_sized (C := Try.checked) own started (by kernel_rfl) Try.func8
    (ChangeSpec.witness6 (enc := enc) (C := Try.checked) false ⟨#[], #[.agg #[.slice none 0 0, .int .i64 0], .int .i64 0], []⟩ 8 (by kernel_rfl) (by kernel_rfl) (by kernel_rfl) (by kernel_rfl)) ?_
  intro W base args ds gs before hval0 hW hcnd hsz0 _
  have hval : ∀ (j : Nat) t v, Try.f8.params[j]? = some t → args[j]? = some v → Value.okWide Try.prog W .any base t v := hval0
  have hW' := hW
  obtain ⟨p, q, hA0, hV, rfl, hfz, hnd⟩ := hW
  have hA : DataW.TrodAll enc Try.prog W 0 (fun _ => true) true Try.f8.params.toList args.toList ds p := hA0
  rw [Try.params8] at hA hval
  obtain ⟨v0, vs0, d0, ds0, p0, q0, hargs, rfl, rfl, h0, r0⟩ := trodAll_cons hA
  obtain ⟨v1, vs1, d1, ds1, p1, q1, rfl, rfl, rfl, h1, r1⟩ := trodAll_cons r0
  obtain ⟨rfl, rfl, rfl⟩ := trodAll_nil r1
  obtain rfl : args = #[v0, v1] := by cases args; simp_all
  obtain ⟨rfl, rfl⟩ := trodVars_none hV
  have kk0 := h0
  have lt0 : ∀ x ∈ p0, x.block < W.heap.size := by obtain ⟨m, hm⟩ := kk0; exact DataW.trod_lt m _ _ _ hm
  obtain ⟨fu0, hf0⟩ := h0
  obtain ⟨cs0, rfl, _⟩ := okWide_struct Try.underlying66 (hval 0 66 v0 rfl rfl)
  obtain ⟨xx0, hk0, ww0⟩ := opn66 hf0
  obtain ⟨l0_0, a0_1⟩ := xx0
  obtain ⟨z0, hz0⟩ : ∃ z, z = (Value.agg cs0).cells.toList := ⟨_, rfl⟩
  rw [← hz0] at hk0
  obtain ⟨_, _, rfl, ⟨A0_0, c0_0, rfl, hc0_0, hr0_0⟩, rfl⟩ := hk0
  simp only [Value.cells, List.cons_append, List.nil_append] at hz0
  obtain rfl : cs0 = #[.slice A0_0 l0_0.length c0_0, .int .i64 a0_1] := by rw [← Array.toArray_toList (xs := cs0), ← hz0]
  obtain ⟨w0_0, w0_1⟩ := ww0
  have kk1 := h1
  have lt1 : ∀ x ∈ p1, x.block < W.heap.size := by obtain ⟨m, hm⟩ := kk1; exact DataW.trod_lt m _ _ _ hm
  obtain ⟨a1, rfl, rfl, rfl, w1⟩ := open_int Try.underlying26 (hval 1 26 v1 rfl rfl) h1
  clear hA0 hval0 hsz0
  refine (Ps.pathsUse_walk W _ _ _ _ a1 hc0_0 hr0_0 w0_0 w0_1 w1).mono fun e W' ⟨he, bel⟩ => ?_
  subst he
  exact ⟨_, rfl, _, _, _, [], _, [], hW', trodAll_mk1 (shut_bool Try.underlying4 _), (trodAll_cons_mk (Below.trod laidOut (by kernel_rfl) (of_decide_eq_true (by kernel_rfl)) kk0 bel lt0) (trodAll_cons_mk (Below.trod laidOut (by kernel_rfl) (of_decide_eq_true (by kernel_rfl)) kk1 bel lt1) trodAll_mk0)), rfl, bel.frame _, fun h => by cases h⟩
theorem over : Rows.pathsUseRow.holds Try.pinned (OpenSpec.ofChange Rows.pathsUseSpec) :=
  OpenClaim.holds_of_wide 8 Try.f8 rfl rfl rfl rfl rfl rfl rfl ⟨rfl, rfl, rfl, rfl, rfl⟩ rfl rfl rfl rfl rfl (by kernel_rfl) Try.func8 (by kernel_rfl)
    (of_decide_eq_true (by kernel_rfl)) (by unfold Func.isWrapper; first | (rw [if_pos (by decide +kernel)]; kernel_rfl) | (rw [if_neg (by decide +kernel)]; exact ⟨rfl, rfl⟩))
    (fun os started H enc _ => lifted os started H enc)
end Go.Proofs.Ytblooffiggciiaa.pathsUse
namespace Go.Proofs.Ytblooffiggciiaa
/-- The row, under a short name, for the claim. -/
theorem pathsUse_holds : Rows.PathsUseSaid := pathsUse.over
#print axioms pathsUse_holds
end Go.Proofs.Ytblooffiggciiaa
