/- RowCopies: for every input the law returns true, and its arguments read as before: the row, out of the walk; no condition. -/
import Derived.Test.YthflkloghbhhgaaZRowCopiesSaid0
import Derived.Test.YthflkloghbhhgaaWWords
import Derived.Test.YthflkloghbhhgaaWArr
import Derived.ProofKit
import Derived.OpenShut
import Derived.Deep.Slices
import Derived.ChangeArms
import Derived.Test.YthflkloghbhhgaaRows
import Derived.WalkKit
import Derived.ShutString
import Derived.ChangeOld
import Derived.Below
import Derived.SizedLaws
import Derived.Carry
/- RowZg -/
namespace Go.Proofs.Ythflkloghbhhgaa.Rw
open Go.RowKit Go.Shelf Go.Proofs.YthflkloghbhhgaaW.PrintWords Go.Proofs.YthflkloghbhhgaaW.PrintLast Go.Proofs.YthflkloghbhhgaaW.PrintMore Go.Proofs.Ythflkloghbhhgaa.Sh Go.Proofs.Ythflkloghbhhgaa.PAll
open Go.Proofs.Ythflkloghbhhgaa.Rs (chg_below alive_row Yes)
set_option linter.unusedVariables false
set_option linter.unusedSimpArgs false
attribute [local go_sem] Oper.semAt_some min2_int min_two
/-- A loop over an iterator whose ways out, the end and an exit, meet. -/
theorem range_meet {F : Fence} {n : Nat} {P : Program} {α : Type} {g : Operand} {ps : Array Tmp} {assign body : Code} {Q : Exit → Act → World → Prop} {a : Act} {w : World}
    (hro : F.round = none) (h1 : 1 ≤ n) {gf : Nat} {lb : Array Value} (hg : a.eval g = .func (.func gf) #[] lb) (hFg : F.fn gf) (eg : ∀ args w, (callFunc gf args).run P w = .ok (.enter gf args) w)
    {encs : α → Array Value} {Kp : World → World → Prop} {S Sp : List α → Prop} {N : Nat} {w0 : World} (hseq : SeqStopsK F (n - 1) P gf lb encs Kp S Sp N w0)
    (hKt : ∀ {A B C : World}, Kp A B → Kp B C → Kp A C) (hKb : ∀ (W : World) (l : Nat) (o o' : Obj), w.heap.size ≤ l → W.heap[l]? = some o → o.isCells = false → o.isWalk = false → Kp W (W.putObj l o')) (hb0 : Below w0.heap.size w0 w) (hps : ∀ x, (encs x).size = ps.size)
    (I : List α → World → Prop) (Ix : Code → List α → World → Prop) (hI : OwnFrom w.heap.size I) (hIx : ∀ c, OwnFrom w.heap.size (Ix c)) (h0 : I [] w)
    (id : Nat) (R : World → Prop)
    (hd : ∀ ys W, S ys → I ys W → R W) (hs : ∀ c pre W, Sp pre → Ix c pre W → c = .exit id ∧ R W) (hQ : ∀ a W, Q .normal a W → Q (.exit id) a W)
    (hab : ∃ a₁ : α → Act, (∀ (l : Nat) (x : α) (W : World) (K : Act → World → Prop), K (a₁ x) W →
      assign.wpIn (F.inRound l) (n - 1 - 1) P (Exit.then K (fun _ _ _ => False)) { tmps := (ps.zip (encs x)).foldl (fun t (p, v) => t.setIfInBounds p v) a.tmps, defers := [] } W) ∧
      (∀ (l : Nat) (pre : List α) (x : α) (W : World), I pre W → pre.length < N → body.wpIn (F.inRound l) (n - 1 - 1) P (ownPostK Kp I Ix (pre ++ [x]) W) (a₁ x) W))
    (hrest : ∀ (D : Nat) (W : World), w.heap.size ≤ D → R W → W.heap[D]? = some (.deferred (some [])) → Q .normal { a with defers := { target := .collected D, args := #[] } :: a.defers } W) :
    (Code.rangeFunc g ps assign body).wpIn F n P Q a w := by
  obtain ⟨a₁, hassign, hbody⟩ := hab
  exact wpIn_rangeFunc_ownF hro h1 hg hFg eg hseq hKt hKb hb0 hps I Ix hI hIx h0 a₁ hassign hbody
    (fun D ys W hD hS hI2 hK => hrest D W hD (hd ys W hS hI2) hK)
    (fun D c pre W hD hSp hIx2 hK => by
      obtain ⟨rfl, hR⟩ := hs c pre W hSp hIx2
      exact wpIn_exit (hQ _ _ (hrest D W hD hR hK)))
/-- What lies when the loops begin: the row, the boxes. -/
structure CS (W : World) (g p : Nat) (fr mo : Int) (v : Value) (xs : List Int) (wr : World) : Prop where
  row : RowAt wr W.heap.size p fr mo v xs
  box : wr.heap[g]? = some (.cells #[.bool false] 4 (0, 0))
  hg : W.heap.size ≤ g
  bel : Below W.heap.size W wr
theorem CS.below {W wr w2 : World} {g p : Nat} {fr mo : Int} {v : Value} {xs : List Int} (h : CS W g p fr mo v xs wr) (hb : Below wr.heap.size wr w2) : CS W g p fr mo v xs w2 :=
  ⟨h.row.keep (hb.block p h.row.lt) (fun k hk => hb.block k (Kd.Q_lt h.row.2.2 k hk)), blk_below h.box hb, h.hg, below_step h.bel hb⟩
theorem box_true {w2 : World} {g : Nat} (hb : w2.heap[g]? = some (.cells #[.bool false] 4 (0, 0))) : (w2.setCell ⟨g, 0, none⟩ (.bool true)).cell? ⟨g, 0, none⟩ = some (.bool true) :=
  (blk_cell (blk_put (cs' := #[.bool true]) hb 0 (.bool true) rfl) 0).trans rfl
theorem out_true {W w2 : World} {g : Nat} (hb : w2.heap[g]? = some (.cells #[.bool false] 4 (0, 0))) (hg : W.heap.size ≤ g) (hB : Below W.heap.size W w2) (tmps : Array Value) (ht : tmps.getD 6 undef = .pointer (some ⟨g, 0, none⟩)) :
    bodyPostM Fence.wide 10 Try.prog Try.f7 (fun e w' => e = .returned (.bool true) ∧ Below W.heap.size W w') .ret { tmps := tmps, defers := [] } (w2.setCell ⟨g, 0, none⟩ (.bool true)) :=
  ⟨.bool true, results_c1 rfl _ _ g _ ht (load_bool _ _ _ (box_true hb)), rfl, hB.setCell (p := ⟨g, 0, none⟩) hg _⟩
theorem q_low {w : World} {B B' : Nat} {v : Value} {xs : List Int} (h : (Kd.int .i64).Q 3 w B (fun _ => True) v xs) (hb : B' ≤ B) : (Kd.int .i64).Q 3 w B' (fun _ => True) v xs := by
  obtain ⟨a, inner, hq, hr⟩ := h
  exact ⟨a, inner, q_lower hq hb, hr.1, fun m x hm => hr.2 m x hm⟩
theorem RowAt.low {w : World} {B B' p : Nat} {fr mo : Int} {v : Value} {xs : List Int} (h : RowAt w B p fr mo v xs) (hb : B' ≤ B) : RowAt w B' p fr mo v xs := ⟨Nat.le_trans hb h.1, h.2.1, q_low h.2.2 hb⟩
/-- What the second play leaves. -/
def Again (W w4 : World) (p2 : Nat) (mo : Int) (e : Ending) (w' : World) : Prop :=
  ∃ fr2 v22 v92 ys, e = .returned (.tuple #[.agg #[.int .u32 fr2, .int .i64 mo, v92], .bool true]) ∧ RowAt w' W.heap.size p2 fr2 mo v22 ys ∧ (Kd.int .i64).Q 3 w' W.heap.size (fun _ => True) v92 ys ∧ Bd mo fr2 ys ∧ Below w4.heap.size w4 w'
theorem again_calls {W w4 w5 : World} {p2 : Nat} {fr mo : Int} {v2 v9 : Value} {xs : List Int} (hB4 : Below W.heap.size W w4) (hR : RowAt w5 w4.heap.size p2 fr mo v2 xs) (hb : Below w4.heap.size w4 w5) (hQ : (Kd.int .i64).Q 3 w4 W.heap.size (fun _ => True) v9 xs) (hbd : Bd mo fr xs)
    (A : Option Addr) (c : Nat) (l : List (Int × Int × Int)) (hC : Kd.C ACT W A l.length l) (hlc : l.length ≤ c) (hll : l.length ≤ 60) (hw : ∀ z ∈ l, 0 ≤ z.2.1 ∧ z.2.1 < 4294967296) :
    Calls Try.prog 20 #[.pointer (some ⟨p2, 0, none⟩), .agg #[.int .u32 fr, .int .i64 mo, v9], .slice A l.length c] w5 (Again W w4 p2 mo) := by
  have hv2 : ∀ k, v2.ownBlock = some k → w4.heap.size ≤ k := fun k hk => Kd.Q_base hR.2.2 k hk
  refine (play_calls (hR.low hB4.size) (q_keep hQ (fun k hk => hb.block k (Kd.Q_lt hQ k hk))) (fun k hk he => by have h1 := hv2 k hk; have h2 := Kd.Q_lt hQ k he; omega) hbd A c l hC hlc hll hw (below_step hB4 hb)).mono ?_
  rintro e w' ⟨fr2, v22, v92, ys, he, hR2, hQ2, _, _, hchg, hbd2⟩
  exact ⟨fr2, v22, v92, ys, he, hR2, hQ2, hbd2, hb.trans (chg_below hchg hR.1 hv2 hb.size)⟩
theorem out_two {W w2 : World} {g D D2 : Nat} (hb : w2.heap[g]? = some (.cells #[.bool false] 4 (0, 0))) (hD : w2.heap[D]? = some (.deferred (some []))) (hD2 : w2.heap[D2]? = some (.deferred (some []))) (hne : D ≠ D2) (h1 : g ≠ D) (h2 : g ≠ D2) (hg : W.heap.size ≤ g) (h3 : W.heap.size ≤ D) (h4 : W.heap.size ≤ D2) (hB : Below W.heap.size W w2) (tmps : Array Value) (ht : tmps.getD 6 undef = .pointer (some ⟨g, 0, none⟩)) :
    bodyPostM Fence.wide 10 Try.prog Try.f7 (fun e w' => e = .returned (.bool true) ∧ Below W.heap.size W w') .ret { tmps := tmps, defers := [{ target := .collected D2, args := #[] }, { target := .collected D, args := #[] }] } (w2.setCell ⟨g, 0, none⟩ (.bool true)) := by
  have k2 := (Below.heap_setCell w2 ⟨g, 0, none⟩ (.bool true) D2 (fun e => h2 e.symm)).trans hD2
  have k1 := (Below.heap_setCell w2 ⟨g, 0, none⟩ (.bool true) D (fun e => h1 e.symm)).trans hD
  have kz := blk_put (cs' := #[.bool true]) hb 0 (.bool true) rfl
  have hBz := hB.setCell (p := ⟨g, 0, none⟩) hg (.bool true)
  generalize w2.setCell ⟨g, 0, none⟩ (.bool true) = w3 at k1 k2 kz hBz ⊢
  have j1 : (w3.putObj D2 (.deferred none)).heap[D]? = some (.deferred (some [])) := (World.putObj_heap_other hne).trans k1
  have jz : (w3.putObj D2 (.deferred none)).heap[g]? = _ := (World.putObj_heap_other h2).trans kz
  have hBy := hBz.trans (belowK_b (w := W) (Nat.le_refl _) w3 D2 _ (.deferred none) h4 k2 rfl rfl)
  have lz : ((w3.putObj D2 (.deferred none)).putObj D (.deferred none)).heap[g]? = _ := (World.putObj_heap_other h1).trans jz
  have hBx := hBy.trans (belowK_b (w := W) (Nat.le_refl _) (w3.putObj D2 (.deferred none)) D _ (.deferred none) h3 j1 rfl rfl)
  refine ⟨by simp, .inl ⟨_, _, rfl, run_takeDeferred k2, ?_⟩⟩
  refine ⟨by simp, .inl ⟨_, _, rfl, run_takeDeferred j1, ?_⟩⟩
  exact ⟨.bool true, results_c1 rfl _ _ g _ ht (load_bool _ _ _ ((blk_cell lz 0).trans rfl)), rfl, hBx⟩
theorem leaves_tmps {F : Fence} {n : Nat} {P : Program} {fn : Func} {R : Ending → World → Prop} {t1 t2 : Array Value} (h : results fn t1 = results fn t2) : ∀ (ds : List Deferred) (u : FrameMode) (w : World), LeavesInM F n P fn t1 R ds u w → LeavesInM F n P fn t2 R ds u w
  | [], u, w, hl => by
    cases u with
    | returning =>
      obtain ⟨v, h1, h2⟩ := hl
      exact ⟨v, h ▸ h1, h2⟩
    | panicking c => exact hl
    | run => exact hl
  | d :: ds, u, w, ⟨hu, hl⟩ => by
    refine ⟨hu, ?_⟩
    rcases hl with ⟨r, w', h1, h2, h3⟩ | ⟨h1, fv, cap, f, args, h2, h3, h4, h5⟩
    · exact .inl ⟨r, w', h1, h2, leaves_tmps h ds u w' h3⟩
    · refine .inr ⟨h1, fv, cap, f, args, h2, h3, h4, h5.mono (fun e u' w' hx => ?_)⟩
      cases e with
      | returned v => exact leaves_tmps h ds _ _ hx
      | panicked c => exact leaves_tmps h ds _ _ hx
      | outgrown => exact hx
theorem results_put {N : Option Tmp} (hN : N ≠ some 6) (v : Value) (a : Act) : results Try.f7 (a.put N v).tmps = results Try.f7 a.tmps := by
  cases N with
  | none => rfl
  | some k =>
    have hk : k ≠ 6 := fun e => hN (by rw [e])
    have hr : Try.f7.results = #[.cell 6 4] := rfl
    have hg : (a.tmps.setIfInBounds k v)[6]? = a.tmps[6]? := by rw [Array.getElem?_setIfInBounds_ne hk]
    show results Try.f7 (a.tmps.setIfInBounds k v) = _
    simp only [results, hr]
    simp [hg]
theorem panic_put {N : Option Tmp} (hN : N ≠ some 6) {v : Value} {K : Act → World → Prop} {R : Ending → World → Prop} : ∀ c a w, Exit.then K (bodyPostM Fence.wide 10 Try.prog Try.f7 R) (.panic c) (a.put N v) w → Exit.then K (bodyPostM Fence.wide 10 Try.prog Try.f7 R) (.panic c) a w := by
  intro c a w h
  have hd : (a.put N v).defers = a.defers := by cases N <;> rfl
  have h' : LeavesInM Fence.wide 10 Try.prog Try.f7 (a.put N v).tmps R (a.put N v).defers (.panicking c) w := h
  rw [hd] at h'
  exact leaves_tmps (results_put hN v a) _ _ _ h'
set_option maxRecDepth 100000 in
set_option maxHeartbeats 8000000 in
theorem rowCopies_walk (W : World) (a0_0 : Int) (a0_1 : Int) (A1 : Option Addr) (c1 : Nat) (l1 : (List (Int × Int × Int))) (A2 : Option Addr) (c2 : Nat) (l2 : (List (Int × Int × Int))) (w0_0 : (Lit.int .u32 a0_0).wf = true) (w0_1 : (Lit.int .i64 a0_1).wf = true) (hc1 : l1.length ≤ c1) (hr1 : Kd.C (Kd.pair (Kd.int .i64) (Kd.pair (Kd.int .u32) (Kd.int .i64))) W A1 l1.length l1) (w1 : (∀ zl1 ∈ l1, ((Lit.int .i64 zl1.1).wf = true ∧ (Lit.int .u32 zl1.2.1).wf = true ∧ (Lit.int .i64 zl1.2.2).wf = true))) (hc2 : l2.length ≤ c2) (hr2 : Kd.C (Kd.pair (Kd.int .i64) (Kd.pair (Kd.int .u32) (Kd.int .i64))) W A2 l2.length l2) (w2 : (∀ zl2 ∈ l2, ((Lit.int .i64 zl2.1).wf = true ∧ (Lit.int .u32 zl2.2.1).wf = true ∧ (Lit.int .i64 zl2.2.2).wf = true))) :
    Calls Try.prog 7 #[.agg #[.int .u32 a0_0, .int .i64 a0_1], .slice A1 l1.length c1, .slice A2 l2.length c2] W fun e w' => e = .returned (.bool true) ∧ Below W.heap.size W w' := by
  have HF := Aside0.mk (u32_wf w0_0)
  have HW1 := Aside0.mk (fun z (hz : z ∈ l1) => u32_wf (w1 z hz).2.1)
  have HW2 := Aside0.mk (fun z (hz : z ∈ l2) => u32_wf (w2 z hz).2.1)
  have HC1 := Aside0.mk (And.intro hr1 hc1)
  have HC2 := Aside0.mk (And.intro hr2 hc2)
  clear w0_0 w0_1 w1 hr1 hc1 w2 hr2 hc2
  refine (callsIn_wide (n := 10)).1 ?_
  refine callsIn_of_wp_marks Try.func7 rfl (by trivial) ?_ rfl
  refine wpIn_wide.2 ?_
  simp only [Try.ntmps7, List.size_toArray, List.length_cons, List.length_nil, Nat.reduceAdd, Nat.reduceSub, Array.replicate_succ, Array.replicate_zero, List.push_toArray, List.append_toArray, List.nil_append, List.cons_append]
  go_wp2_with fail
  refine alive_row.mono ?_
  rintro e w1 ⟨rfl, hB1⟩
  have HX := Aside0.mk (blk_below (blk_alloc (blk_new W (.cells #[.int .u32 a0_0, .int .i64 a0_1] 24 (0, 0))) (.cells #[.bool false] 4)) hB1)
  have hg1 := blk_below (blk_new (W.alloc (.cells #[.int .u32 a0_0, .int .i64 a0_1] 24 (0, 0))) (.cells #[.bool false] 4)) hB1
  rw [World.size_alloc] at hg1
  have HG := Aside0.mk hg1
  have HB1 := Aside0.mk ((((Below.refl W.heap.size W).alloc (Nat.le_refl _) (.cells #[.int .u32 a0_0, .int .i64 a0_1] 24 (0, 0))).alloc (by simp) (.cells #[.bool false] 4)).trans (hB1.mono (by simp; omega)))
  clear hB1 hg1
  obtain ⟨g, hg⟩ : ∃ g, g = W.heap.size + 1 := ⟨_, rfl⟩
  rw [← hg] at HG
  have HGG := Aside0.mk hg
  have hx := cc2 HX.out
  have hxg := blk_cell HG.out 0
  have hxf := blk_frozen HG.out 0
  have HGW := Aside0.mk (show W.heap.size ≤ g by omega)
  simp only [World.size_alloc, ← hg]
  clear hg
  by_cases hmo : a0_1 < 1 ∨ 1024 < a0_1
  · have HM := Aside0.mk hmo
    clear hmo
    go_wp2_with (first | (go_at_call 9; refine (new_bad HM.out).mono ?_; rintro e w2 ⟨rfl, rfl⟩))
    exact out_true HG.out HGW.out HB1.out _ rfl
  · have hm1 : ¬ a0_1 < 1 := by omega
    have hm2 : ¬ 1024 < a0_1 := by omega
    have HM := Aside0.mk (show 1 ≤ a0_1 ∧ a0_1 ≤ 1024 by omega)
    clear hmo
    have HB2 := Aside0.mk (below_new HB1.out (.cells #[.int .u32 a0_0, .int .i64 a0_1, .slice none 0 0] 65))
    have HG2 := Aside0.mk (blk_alloc HG.out (.cells #[.int .u32 a0_0, .int .i64 a0_1, .slice none 0 0] 65))
    have HX2 := Aside0.mk (blk_alloc HX.out (.cells #[.int .u32 a0_0, .int .i64 a0_1, .slice none 0 0] 65))
    have hx2 := cc2 HX2.out
    have hxg2 := blk_cell HG2.out 0
    have hxf2 := blk_frozen HG2.out 0
    by_cases hl1 : 40 < l1.length
    · have hl1i : (40 : Int) < (l1.length : Int) := by omega
      go_wp2_with (first | (go_at_call 9; refine (new_row HM.out.1 HM.out.2).mono ?_; rintro e w2 ⟨rfl, rfl⟩))
      exact out_true HG2.out HGW.out HB2.out _ rfl
    · have hl1i : ¬ (40 : Int) < (l1.length : Int) := by omega
      by_cases hl2 : 40 < l2.length
      · have hl2i : (40 : Int) < (l2.length : Int) := by omega
        go_wp2_with (first | (go_at_call 9; refine (new_row HM.out.1 HM.out.2).mono ?_; rintro e w2 ⟨rfl, rfl⟩))
        exact out_true HG2.out HGW.out HB2.out _ rfl
      · have hl2i : ¬ (40 : Int) < (l2.length : Int) := by omega
        have HL := Aside0.mk (show l1.length ≤ 40 ∧ l2.length ≤ 40 by omega)
        have HP := Aside0.mk (play_new HB1.out HF.out.1 HF.out.2 HM.out.1 HM.out.2 A1 c1 l1 HC1.out.1 HC1.out.2 (by omega) HW1.out)
        clear hl1 hl2
        go_wp2_with (first | (go_at_call 9; refine (new_row HM.out.1 HM.out.2).mono ?_; rintro e w2 ⟨rfl, rfl⟩))
        refine HP.out.mono ?_
        rintro e w3 ⟨fr, v, v9, xs, rfl, hRow, hQ, hap, ho, hchg, hbd⟩
        obtain ⟨A9, c9, rfl, hc9, hC9⟩ := Kd.Q_reads hQ
        have hB3 := HB2.out.trans (chg_below hchg HB1.out.size (fun k hk => by simp [Value.ownBlock] at hk) HB2.out.size)
        have hnp : g ≠ w1.heap.size := by have := blk_lt HG.out; omega
        have HG3 := Aside0.mk ((hchg.block g (blk_lt HG2.out) hnp (by simp [Value.ownBlock])).trans HG2.out)
        have HX3 := Aside0.mk ((hchg.block W.heap.size (blk_lt HX2.out) (by have := blk_lt HX.out; omega) (by simp [Value.ownBlock])).trans HX2.out)
        have HB3 := Aside0.mk hB3
        have HRow := Aside0.mk hRow
        have HQ := Aside0.mk hQ
        have HBD := Aside0.mk hbd
        clear hRow hQ hap ho hchg hbd hB3 hnp hC9 hc9 hx hx2 hxg hxg2 hxf hxf2 HP
        obtain ⟨p, hp⟩ : ∃ p, p = w1.heap.size := ⟨_, rfl⟩
        rw [← hp] at HRow ⊢
        clear hp
        have hx3 := cc2 HX3.out
        have HB4 := Aside0.mk (HB3.out.alloc HB3.out.size (.cells #[.int .u32 fr, .int .i64 a0_1, .slice A9 xs.length c9] 50))
        have hb34 : Below w3.heap.size w3 (w3.alloc (.cells #[.int .u32 fr, .int .i64 a0_1, .slice A9 xs.length c9] 50)) := (Below.refl _ _).alloc (Nat.le_refl _) _
        have HCS4 := Aside0.mk (CS.below ⟨HRow.out, HG3.out, HGW.out, HB3.out⟩ hb34)
        have HQ4 := Aside0.mk (q_keep HQ.out (fun k hk => hb34.block k (Kd.Q_lt HQ.out k hk)))
        have HY4 := Aside0.mk (blk_new w3 (.cells #[.int .u32 fr, .int .i64 a0_1, .slice A9 xs.length c9] 50))
        have hxl : xs.length ≤ 1024 := by have := HBD.out.2.2; omega
        clear hb34 HRow HQ HG3 HB3 HX3
        go_wp2_with fail
        generalize w3.alloc (Obj.cells #[Value.int IntKind.u32 fr, Value.int IntKind.i64 a0_1, Value.slice A9 xs.length c9] 50) = w4 at HB4 HCS4 HQ4 HY4 ⊢
        obtain ⟨g4, hg4⟩ : ∃ g, g = w3.heap.size := ⟨_, rfl⟩
        rw [← hg4] at HY4 ⊢
        clear hg4 hx3
        refine (copy_row HCS4.out.row hxl).mono ?_
        rintro e w5 ⟨p2, v2, rfl, hR5, hb5⟩
        have HAG := Aside0.mk (again_calls HB4.out hR5 hb5 HQ4.out HBD.out A2 c2 l2 HC2.out.1 HC2.out.2 (by have := HL.out; omega) HW2.out)
        have hx5 := cc3 (blk_below HY4.out hb5)
        clear hR5 hb5
        go_wp2_with fail
        refine HAG.out.mono ?_
        rintro e w6 ⟨fr2, v22, v92, ys, rfl, hR6, hQ6, hbd2, hb6⟩
        obtain ⟨A92, c92, rfl, hc92, hC92⟩ := Kd.Q_reads hQ6
        have hb67 : Below w6.heap.size w6 (w6.alloc (.cells #[.int .u32 fr2, .int .i64 a0_1, .slice A92 ys.length c92] 50)) := (Below.refl _ _).alloc (Nat.le_refl _) _
        have HB7 := Aside0.mk (below_step hb6 hb67)
        have HR7 := Aside0.mk (hR6.keep (hb67.block p2 hR6.lt) (fun k hk => hb67.block k (Kd.Q_lt hR6.2.2 k hk)))
        have HC7 := Aside0.mk (Kd.C_below hC92 hb67)
        have HY7 := Aside0.mk (blk_new w6 (.cells #[.int .u32 fr2, .int .i64 a0_1, .slice A92 ys.length c92] 50))
        have HBD2 := Aside0.mk hbd2
        clear hR6 hQ6 hbd2 hb6 hb67 hc92 hC92 hx5 HAG
        go_upto_region 11 with fail
        generalize w6.alloc (Obj.cells #[Value.int IntKind.u32 fr2, Value.int IntKind.i64 a0_1, Value.slice A92 ys.length c92] 50) = w7 at HB7 HR7 HC7 HY7 ⊢
        obtain ⟨g7, hg7⟩ : ∃ g, g = w6.heap.size := ⟨_, rfl⟩
        rw [← hg7] at HY7 ⊢
        clear hg7
        have HCS7 := Aside0.mk (HCS4.out.below HB7.out)
        have HS1 := Aside0.mk (stands_true HCS7.out.row A9 c9 (Kd.C_below (Kd.Q_reads' HQ4.out).2.2 HB7.out) HBD.out.1 HBD.out.2.1 (by have := HBD.out.2.2; omega) (by have := HBD.out.2.2; omega) HBD.out.2.2.1)
        have HS2 := Aside0.mk (fun w8 (h : Below w7.heap.size w7 w8) => stands_true (HR7.out.keep (h.block p2 HR7.out.lt) (fun k hk => h.block k (Kd.Q_lt HR7.out.2.2 k hk))) A92 c92 (Kd.C_below HC7.out h) HBD2.out.1 HBD2.out.2.1 (by have := HBD2.out.2.2; omega) (by have := HBD2.out.2.2; omega) HBD2.out.2.2.1)
        have hx7 := cc3 (blk_below HY4.out HB7.out)
        have hy7 := cc3 HY7.out
        go_wp2_with fail
        refine HS1.out.mono ?_
        rintro e w8 ⟨rfl, hb8⟩
        have HB8 := Aside0.mk hb8
        have hy8 := cc3 (blk_below HY7.out hb8)
        clear hb8 hx7 hy7
        go_wp2_with fail
        refine (HS2.out _ HB8.out).mono ?_
        rintro e w9 ⟨rfl, hb9⟩
        have HCS9 := Aside0.mk (HCS7.out.below (below_step HB8.out hb9))
        clear hb9 hy8 HS1 HS2 HB8 HCS7 HY7 HC7 HR7 HB7 HY4 HQ4 HCS4 HB4 HBD2
        go_wp2_with fail
        refine (all_calls _ _).mono ?_
        rintro e w' ⟨rfl, rfl⟩
        have hB1 := ((Below.refl w9.heap.size w9).alloc (Nat.le_refl _) (.cells #[.int .i64 0] 3)).alloc (by simp) (.cells #[.pointer (some ⟨p, 0, none⟩)] 27)
        have h3 := blk_alloc (blk_new w9 (.cells #[.int .i64 0] 3)) (.cells #[.pointer (some ⟨p, 0, none⟩)] 27)
        have h4 := blk_new (w9.alloc (.cells #[.int .i64 0] 3)) (.cells #[.pointer (some ⟨p, 0, none⟩)] 27)
        have hsz : ((w9.alloc (.cells #[.int .i64 0] 3)).alloc (.cells #[.pointer (some ⟨p, 0, none⟩)] 27)).heap.size = w9.heap.size + 2 := by simp
        simp only [World.size_alloc] at h4 ⊢
        go_wp2_with fail
        generalize (w9.alloc (.cells #[.int .i64 0] 3)).alloc (.cells #[.pointer (some ⟨p, 0, none⟩)] 27) = wA at hB1 h3 h4 hsz ⊢
        have hplt := HCS9.out.row.lt
        have hvlt : ∀ k, v.ownBlock = some k → k < w9.heap.size := fun k hk => Kd.Q_lt HCS9.out.row.2.2 k hk
        have HLE := Aside0.mk (show w9.heap.size ≤ w9.heap.size from Nat.le_refl _)
        obtain ⟨gk, hgk⟩ : ∃ gk, gk = w9.heap.size := ⟨_, rfl⟩
        rw [← hgk] at hB1 h3 h4 hsz hplt hvlt ⊢
        have HGK := Aside0.mk hgk
        clear hgk HLE
        refine (wpIn_wide (n := 10)).1 ?_
        refine range_meet (n := 10) rfl (by decide) (gf := 39) (lb := #[.pointer (some ⟨gk + 1, 0, none⟩)]) rfl (by trivial) (enters_of Try.func39 (by kernel_rfl) rfl)
          (all_stops 9 (by decide) (gk + 1) gk W.heap.size p fr a0_1 v xs hxl hplt hvlt wA (by omega) (by omega) h4 (HCS9.out.row.under hplt hvlt hB1))
          (fun h h' => Kp.trans h h') (fun W l o o' hle ho hc hw => ⟨belowK_b (w := wA) (by omega) W l o o' hle ho hc hw, World.putObj_heap_other (by omega)⟩) (Below.refl _ _) (fun _ => rfl)
          (fun pre W => (pre = [] ∧ W.heap[gk]? = some (.cells #[.int .i64 0] 3 (0, 0))) ∧ Below gk w9 W)
          (fun e pre W => (e = .exit 0 ∧ pre.length = 1 ∧ W.heap[gk]? = some (.cells #[.int .i64 1] 3 (0, 0))) ∧ Below gk w9 W)
          (OwnFrom.and (fun s A B row hs hg hr => ⟨hs.1, gb_blk hg hs.2 (fun e => by have := (hr _ e.symm).1; omega)⟩) (ownFrom_below (Nat.le_of_eq HGK.out) (by omega)))
          (fun e => OwnFrom.and (fun s A B row hs hg hr => ⟨hs.1, hs.2.1, gb_blk hg hs.2.2 (fun e => by have := (hr _ e.symm).1; omega)⟩) (ownFrom_below (Nat.le_of_eq HGK.out) (by omega)))
          ⟨⟨rfl, h3⟩, hB1⟩
          0 (fun W => ∃ kv : Nat, kv = min 1 xs.length ∧ W.heap[gk]? = some (.cells #[.int .i64 (kv : Nat)] 3 (0, 0)) ∧ Below gk w9 W)
          ?hd ?hs ?hQ ?hab ?rest
        case hd =>
          rintro ys W hys ⟨⟨hy, hk⟩, hB⟩
          refine ⟨0, ?_, hk, hB⟩
          have h := congrArg List.length (hys.symm.trans hy)
          rw [upto_length] at h
          have h0 : xs.length = 0 := h
          omega
        case hs =>
          rintro c pre W ⟨k, hk, hpre⟩ ⟨⟨hc, hl, hcell⟩, hB⟩
          refine ⟨hc, 1, ?_, hcell, hB⟩
          rw [hpre, upto_length] at hl
          omega
        case hQ =>
          intro a W h
          first | exact h | simpa [Exit.inBlock] using h
        case hab =>
          apply Exists.intro
          refine ⟨?assign, ?body⟩
          case assign =>
            intro l x W K hK
            gi_wp2
            exact hK
          case body =>
            rintro l pre x W ⟨⟨rfl, h3⟩, hB⟩ hlt
            have H3 := Aside0.mk h3
            have hc3 : W.cell? ⟨gk, 0, none⟩ = some (.int .i64 0) := (blk_cell h3 0).trans rfl
            have hf3 : W.frozen? ⟨gk, 0, none⟩ = false := blk_frozen h3 0
            clear h3
            gi_wp2
            refine ⟨KeepsOthers.setCell _ _ _, ⟨rfl, rfl, blk_put H3.out 0 _ ?_⟩, hB.setCell (p := ⟨gk, 0, none⟩) (Nat.le_refl gk) _⟩
            first | rfl | simp
        case rest =>
          rintro D wB hD ⟨kv, hkv, hk, hB⟩ hDd
          have HKV := Aside0.mk hkv
          have HK := Aside0.mk (show wB.heap[gk]? = some (.cells #[.int .i64 (kv : Nat)] 3 (0, 0)) ∧ wB.heap[D]? = some (.deferred (some [])) ∧ Below gk w9 wB from ⟨hk, hDd, hB⟩)
          have HDG := Aside0.mk (show gk + 2 ≤ D by omega)
          clear hkv hk hB hDd hD hsz h4 h3 hB1 hplt hvlt
          go_wp2_with (first | (go_at_call 10; refine (push_none _ _).mono ?_; rintro e w' ⟨rfl, m1, rfl⟩) | (go_at_call 15; refine (pop_nilrow _).mono ?_; rintro e w' ⟨rfl, m2, rfl⟩) | (go_at_call 17; refine (cut_none _ _).mono ?_; rintro e w' ⟨rfl, m3, rfl⟩) | (go_at_call 14; refine (at_none _ _).mono ?_; rintro e w' ⟨rfl, m4, rfl⟩) | (go_at_call 24; refine (all_calls _ _).mono ?_; rintro e w' ⟨rfl, rfl⟩))
          have HKC := Aside0.mk (show (wB.drewN (m1 + m2 + m3 + m4)).heap[gk]? = some (.cells #[.int .i64 (kv : Nat)] 3 (0, 0)) ∧ (wB.drewN (m1 + m2 + m3 + m4)).heap[D]? = some (.deferred (some [])) ∧ Below gk w9 (wB.drewN (m1 + m2 + m3 + m4)) from ⟨HK.out.1, HK.out.2.1, pw_below_drewN HK.out.2.2 _⟩)
          have h4 := blk_new (wB.drewN (m1 + m2 + m3 + m4)) (.cells #[.pointer none] 27)
          have hsz : ((wB.drewN (m1 + m2 + m3 + m4)).alloc (.cells #[.pointer none] 27)).heap.size = wB.heap.size + 1 := by simp
          have hgB : gk < wB.heap.size := blk_lt HK.out.1
          have hDB : D < wB.heap.size := blk_lt HK.out.2.1
          have hk1 := blk_alloc HKC.out.1 (.cells #[.pointer none] 27)
          have hk2 := blk_alloc HKC.out.2.1 (.cells #[.pointer none] 27)
          have hk3 := HKC.out.2.2.alloc (show gk ≤ wB.heap.size by omega) (.cells #[.pointer none] 27)
          rw [show (wB.drewN (m1 + m2 + m3 + m4)).heap.size = wB.heap.size from rfl] at h4
          generalize (wB.drewN (m1 + m2 + m3 + m4)).alloc (.cells #[.pointer none] 27) = wC at h4 hsz hk1 hk2 hk3 ⊢
          obtain ⟨b2, hb2⟩ : ∃ b2, b2 = wB.heap.size := ⟨_, rfl⟩
          rw [← hb2] at h4 hsz hgB hDB ⊢
          clear hb2
          refine (wpIn_wide (n := 10)).1 ?_
          refine range_meet (n := 10) rfl (by decide) (gf := 39) (lb := #[.pointer (some ⟨b2, 0, none⟩)]) rfl (by trivial) (enters_of Try.func39 (by kernel_rfl) rfl)
            (none_stops 9 (by decide) b2 gk wC (by omega) h4)
            (fun h h' => Kp.trans h h') (fun W l o o' hle ho hc hw => ⟨belowK_b (w := wC) (by omega) W l o o' hle ho hc hw, World.putObj_heap_other (by omega)⟩) (Below.refl _ _) (fun _ => rfl)
            (fun pre W => (pre = [] ∧ W.heap[gk]? = some (.cells #[.int .i64 (kv : Nat)] 3 (0, 0)) ∧ W.heap[D]? = some (.deferred (some []))) ∧ Below gk w9 W)
            (fun e pre W => False)
            (OwnFrom.and (fun s A B row hs hg hr => ⟨hs.1, gb_blk hg hs.2.1 (fun e => by have := (hr _ e.symm).1; omega), gb_blk hg hs.2.2 (fun e => by have := (hr _ e.symm).1; omega)⟩) (ownFrom_below (Nat.le_of_eq HGK.out) (by omega)))
            (fun e s A B row hs hg hr => hs)
            ⟨⟨rfl, hk1, hk2⟩, hk3⟩
            2 (fun W => W.heap[gk]? = some (.cells #[.int .i64 (kv : Nat)] 3 (0, 0)) ∧ W.heap[D]? = some (.deferred (some [])) ∧ Below gk w9 W)
            ?hd ?hs ?hQ ?hab ?rest
          case hd =>
            rintro ys W hys ⟨⟨hy, h1, h2⟩, hB⟩
            exact ⟨h1, h2, hB⟩
          case hs =>
            rintro c pre W h
            exact h.elim
          case hQ =>
            intro a W h
            first | exact h | simpa [Exit.inBlock] using h
          case hab =>
            apply Exists.intro
            refine ⟨?assign, ?body⟩
            case assign =>
              intro l x W K hK
              gi_wp2
              exact hK
            case body =>
              rintro l pre x W _ hlt
              exact absurd hlt (by omega)
          case rest =>
            rintro D2 wE hD2 ⟨hk, hDd, hB⟩ hDd2
            have hgg : g < gk := by rw [HGK.out]; exact blk_lt HCS9.out.box
            have HE := Aside0.mk (show D ≠ D2 ∧ g ≠ D ∧ g ≠ D2 ∧ W.heap.size ≤ D ∧ W.heap.size ≤ D2 from ⟨by omega, by have := HDG.out; omega, by omega, by have := HDG.out; have := HGW.out; omega, by have := HGW.out; omega⟩)
            have HWE := Aside0.mk (HCS9.out.bel.trans (hB.mono (by have := HCS9.out.bel.size; have := HGK.out; omega)))
            have HGE := Aside0.mk ((hB.block g hgg).trans HCS9.out.box)
            have hvlt : ∀ k, v.ownBlock = some k → k < gk := fun k hk => by rw [HGK.out]; exact Kd.Q_lt HCS9.out.row.2.2 k hk
            have hRE := HCS9.out.row.under (show p < gk by rw [HGK.out]; exact HCS9.out.row.lt) hvlt hB
            obtain ⟨Ln, hLn⟩ : ∃ Ln, Ln = xs.length := ⟨_, rfl⟩
            have HLn := Aside0.mk (show Calls Try.prog 11 #[.pointer (some ⟨p, 0, none⟩)] wE.drew fun e w' => e = .returned (.int .i64 (Ln : Nat)) ∧ wE.drew = w' from by rw [hLn]; exact len_row (hRE.drewN 1))
            have HKE := Aside0.mk (show wE.heap[gk]? = _ ∧ wE.heap[D]? = some (.deferred (some [])) ∧ wE.heap[D2]? = some (.deferred (some [])) from ⟨hk, hDd, hDd2⟩)
            have hkv2 := HKV.out
            rw [← hLn] at hkv2
            have hcase : (Ln = 0 ∧ kv = 0) ∨ (1 ≤ Ln ∧ kv = 1) := by omega
            clear hLn hkv2 HKV hk hDd hDd2 hB hD2 hRE hvlt hk1 hk2 hk3 h4 hsz hgB hDB HK HKC
            rcases hcase with ⟨rfl, rfl⟩ | ⟨h1, rfl⟩
            · have hck : wE.drew.cell? ⟨gk, 0, none⟩ = some (.int .i64 0) := (blk_cell HKE.out.1 0).trans rfl
              have hcg : wE.drew.cell? ⟨g, 0, none⟩ = some (.bool false) := (blk_cell HGE.out 0).trans rfl
              have hfg : wE.drew.frozen? ⟨g, 0, none⟩ = false := blk_frozen HGE.out 0
              have hcg0 : wE.cell? ⟨g, 0, none⟩ = some (.bool false) := (blk_cell HGE.out 0).trans rfl
              have hfg0 : wE.frozen? ⟨g, 0, none⟩ = false := blk_frozen HGE.out 0
              go_wp2_with fail
              refine start_ (n := 52) (S := fun w' => w'.cell? ⟨gk, 0, none⟩ = some (.int .i64 0) ∧ w'.cell? ⟨g, 0, none⟩ = some (.bool false) ∧ w'.frozen? ⟨g, 0, none⟩ = false) (ds := [51]) #[false, false, false, false, false, false, false, false, false, false, false, false, false, false, false, false, false, false, false, false, false, false, false, false, false, false, false, false, false, false, false, false, false, false, false, false, false, false, false, false, false, false, false, false, false, false, false, false, false, false, false, false] (by kernel_rfl) rfl rfl ⟨hck, hcg, hfg⟩ (fun hHeld => ?_)
              refine pure_ (i := 1) (N := some 112) (v := ?_) (a' := ?_) #[false, true, false, false, false, false, false, false, false, false, false, false, false, false, false, false, false, false, false, false, false, false, false, false, false, false, false, false, false, false, false, false, false, false, false, false, false, false, false, false, false, false, false, false, false, false, false, false, false, false, false, false] rfl rfl (by kernel_rfl) (panic_put (by decide)) (Or.inl ⟨by rfl, ?_⟩) ?_ ?_
              rotate_left
              · intro w'
                go_simp
                with_reducible rfl
              rotate_left
              · simp only [Act.put, List.setIfInBounds_toArray, List.set_cons_zero, List.set_cons_succ, i64_w, i32_w]
                rfl
              refine take_ (i := 0) (N := some 111) (v := ?_) (a' := ?_) #[true, true, false, false, false, false, false, false, false, false, false, false, false, false, false, false, false, false, false, false, false, false, false, false, false, false, false, false, false, false, false, false, false, false, false, false, false, false, false, false, false, false, false, false, false, false, false, false, false, false, false, false] rfl rfl (by kernel_rfl) (panic_put (by decide)) (Or.inl ⟨by rfl, ?_⟩) hHeld ?_ ?_
              rotate_left
              · rintro w' ⟨s0, s1, s2⟩
                go_simp
                with_reducible rfl
              rotate_left
              · simp only [Act.put, List.setIfInBounds_toArray, List.set_cons_zero, List.set_cons_succ, i64_w, i32_w]
                rfl
              refine one_ (i := 2) (N := some 113) #[true, true, true, false, false, false, false, false, false, false, false, false, false, false, false, false, false, false, false, false, false, false, false, false, false, false, false, false, false, false, false, false, false, false, false, false, false, false, false, false, false, false, false, false, false, false, false, false, false, false, false, false] rfl rfl (by kernel_rfl) (by decide) (fun K hK => ?_)
              refine goes_ Try.func11 (by kernel_rfl) rfl #[.pointer (some ⟨p, 0, none⟩)] (by rfl) rfl rfl (by first | rfl | (simp only [List.map_toArray, List.map_cons, List.map_nil]; rfl)) ?_
              with_reducible refine (HLn.out).mono ?_
              rintro e w7 ⟨rfl, rfl⟩
              refine ⟨_, rfl, ?_⟩
              refine hK.out _ _ ⟨hHeld.1, hHeld.2.1, hHeld.2.2⟩ (fun hHeld => ?_)
              clear hK K
              refine norm_ (a' := ?_) ?_ ?_
              rotate_left
              · show Act.put _ (some 113) _ = _
                simp only [Act.put, List.setIfInBounds_toArray, List.set_cons_zero, List.set_cons_succ, i64_w, i32_w]
                rfl
              refine pure_ (i := 3) (N := some 114) (v := ?_) (a' := ?_) #[true, true, true, true, false, false, false, false, false, false, false, false, false, false, false, false, false, false, false, false, false, false, false, false, false, false, false, false, false, false, false, false, false, false, false, false, false, false, false, false, false, false, false, false, false, false, false, false, false, false, false, false] rfl rfl (by kernel_rfl) (panic_put (by decide)) (Or.inl ⟨by rfl, ?_⟩) ?_ ?_
              rotate_left
              · intro w'
                go_simp
                with_reducible rfl
              rotate_left
              · simp only [Act.put, List.setIfInBounds_toArray, List.set_cons_zero, List.set_cons_succ, i64_w, i32_w]
                rfl
              refine pure_ (i := 4) (N := some 115) (v := ?_) (a' := ?_) #[true, true, true, true, true, false, false, false, false, false, false, false, false, false, false, false, false, false, false, false, false, false, false, false, false, false, false, false, false, false, false, false, false, false, false, false, false, false, false, false, false, false, false, false, false, false, false, false, false, false, false, false] rfl rfl (by kernel_rfl) (panic_put (by decide)) (Or.inl ⟨by rfl, ?_⟩) ?_ ?_
              rotate_left
              · intro w'
                go_simp
                with_reducible rfl
              rotate_left
              · simp only [Act.put, List.setIfInBounds_toArray, List.set_cons_zero, List.set_cons_succ, i64_w, i32_w]
                rfl
              refine pure_ (i := 5) (N := some 116) (v := ?_) (a' := ?_) #[true, true, true, true, true, true, false, false, false, false, false, false, false, false, false, false, false, false, false, false, false, false, false, false, false, false, false, false, false, false, false, false, false, false, false, false, false, false, false, false, false, false, false, false, false, false, false, false, false, false, false, false] rfl rfl (by kernel_rfl) (panic_put (by decide)) (Or.inl ⟨by rfl, ?_⟩) ?_ ?_
              rotate_left
              · intro w'
                go_simp
                with_reducible rfl
              rotate_left
              · simp only [Act.put, List.setIfInBounds_toArray, List.set_cons_zero, List.set_cons_succ, i64_w, i32_w]
                rfl
              refine pure_ (i := 6) (N := some 117) (v := ?_) (a' := ?_) #[true, true, true, true, true, true, true, false, false, false, false, false, false, false, false, false, false, false, false, false, false, false, false, false, false, false, false, false, false, false, false, false, false, false, false, false, false, false, false, false, false, false, false, false, false, false, false, false, false, false, false, false] rfl rfl (by kernel_rfl) (panic_put (by decide)) (Or.inl ⟨by rfl, ?_⟩) ?_ ?_
              rotate_left
              · intro w'
                go_simp
                with_reducible rfl
              rotate_left
              · simp only [Act.put, List.setIfInBounds_toArray, List.set_cons_zero, List.set_cons_succ, i64_w, i32_w]
                rfl
              refine one_ (i := 7) (N := some 118) #[true, true, true, true, true, true, true, true, false, false, false, false, false, false, false, false, false, false, false, false, false, false, false, false, false, false, false, false, false, false, false, false, false, false, false, false, false, false, false, false, false, false, false, false, false, false, false, false, false, false, false, false] rfl rfl (by kernel_rfl) (by decide) (fun K hK => ?_)
              refine goes_ Try.func13 (by kernel_rfl) rfl #[.iface 38 (.int .i64 3), .int .i64 3] (by rfl) rfl rfl (by first | rfl | (simp only [List.map_toArray, List.map_cons, List.map_nil]; rfl)) ?_
              with_reducible refine ((is_no 3 rfl _)).mono ?_
              rintro e w7 ⟨rfl, rfl⟩
              refine ⟨_, rfl, ?_⟩
              refine hK.out _ _ ⟨hHeld.1, hHeld.2.1, hHeld.2.2⟩ (fun hHeld => ?_)
              clear hK K
              refine norm_ (a' := ?_) ?_ ?_
              rotate_left
              · show Act.put _ (some 118) _ = _
                simp only [Act.put, List.setIfInBounds_toArray, List.set_cons_zero, List.set_cons_succ, i64_w, i32_w]
                rfl
              refine pure_ (i := 8) (N := some 119) (v := ?_) (a' := ?_) #[true, true, true, true, true, true, true, true, true, false, false, false, false, false, false, false, false, false, false, false, false, false, false, false, false, false, false, false, false, false, false, false, false, false, false, false, false, false, false, false, false, false, false, false, false, false, false, false, false, false, false, false] rfl rfl (by kernel_rfl) (panic_put (by decide)) (Or.inl ⟨by rfl, ?_⟩) ?_ ?_
              rotate_left
              · intro w'
                go_simp
                with_reducible rfl
              rotate_left
              · simp only [Act.put, List.setIfInBounds_toArray, List.set_cons_zero, List.set_cons_succ, i64_w, i32_w]
                rfl
              refine pure_ (i := 9) (N := some 120) (v := ?_) (a' := ?_) #[true, true, true, true, true, true, true, true, true, true, false, false, false, false, false, false, false, false, false, false, false, false, false, false, false, false, false, false, false, false, false, false, false, false, false, false, false, false, false, false, false, false, false, false, false, false, false, false, false, false, false, false] rfl rfl (by kernel_rfl) (panic_put (by decide)) (Or.inl ⟨by rfl, ?_⟩) ?_ ?_
              rotate_left
              · intro w'
                go_simp
                with_reducible rfl
              rotate_left
              · simp only [Act.put, List.setIfInBounds_toArray, List.set_cons_zero, List.set_cons_succ, i64_w, i32_w]
                rfl
              refine pure_ (i := 10) (N := some 121) (v := ?_) (a' := ?_) #[true, true, true, true, true, true, true, true, true, true, true, false, false, false, false, false, false, false, false, false, false, false, false, false, false, false, false, false, false, false, false, false, false, false, false, false, false, false, false, false, false, false, false, false, false, false, false, false, false, false, false, false] rfl rfl (by kernel_rfl) (panic_put (by decide)) (Or.inl ⟨by rfl, ?_⟩) ?_ ?_
              rotate_left
              · intro w'
                go_simp
                with_reducible rfl
              rotate_left
              · simp only [Act.put, List.setIfInBounds_toArray, List.set_cons_zero, List.set_cons_succ, i64_w, i32_w]
                rfl
              refine one_ (i := 11) (N := some 122) #[true, true, true, true, true, true, true, true, true, true, true, true, false, false, false, false, false, false, false, false, false, false, false, false, false, false, false, false, false, false, false, false, false, false, false, false, false, false, false, false, false, false, false, false, false, false, false, false, false, false, false, false] rfl rfl (by kernel_rfl) (by decide) (fun K hK => ?_)
              refine goes_ Try.func13 (by kernel_rfl) rfl #[.iface 38 (.int .i64 4), .int .i64 4] (by rfl) rfl rfl (by first | rfl | (simp only [List.map_toArray, List.map_cons, List.map_nil]; rfl)) ?_
              with_reducible refine ((is_no 4 rfl _)).mono ?_
              rintro e w7 ⟨rfl, rfl⟩
              refine ⟨_, rfl, ?_⟩
              refine hK.out _ _ ⟨hHeld.1, hHeld.2.1, hHeld.2.2⟩ (fun hHeld => ?_)
              clear hK K
              refine norm_ (a' := ?_) ?_ ?_
              rotate_left
              · show Act.put _ (some 122) _ = _
                simp only [Act.put, List.setIfInBounds_toArray, List.set_cons_zero, List.set_cons_succ, i64_w, i32_w]
                rfl
              refine pure_ (i := 12) (N := some 123) (v := ?_) (a' := ?_) #[true, true, true, true, true, true, true, true, true, true, true, true, true, false, false, false, false, false, false, false, false, false, false, false, false, false, false, false, false, false, false, false, false, false, false, false, false, false, false, false, false, false, false, false, false, false, false, false, false, false, false, false] rfl rfl (by kernel_rfl) (panic_put (by decide)) (Or.inl ⟨by rfl, ?_⟩) ?_ ?_
              rotate_left
              · intro w'
                go_simp
                with_reducible rfl
              rotate_left
              · simp only [Act.put, List.setIfInBounds_toArray, List.set_cons_zero, List.set_cons_succ, i64_w, i32_w]
                rfl
              refine pure_ (i := 13) (N := some 124) (v := ?_) (a' := ?_) #[true, true, true, true, true, true, true, true, true, true, true, true, true, true, false, false, false, false, false, false, false, false, false, false, false, false, false, false, false, false, false, false, false, false, false, false, false, false, false, false, false, false, false, false, false, false, false, false, false, false, false, false] rfl rfl (by kernel_rfl) (panic_put (by decide)) (Or.inl ⟨by rfl, ?_⟩) ?_ ?_
              rotate_left
              · intro w'
                go_simp
                with_reducible rfl
              rotate_left
              · simp only [Act.put, List.setIfInBounds_toArray, List.set_cons_zero, List.set_cons_succ, i64_w, i32_w]
                rfl
              refine pure_ (i := 14) (N := some 125) (v := ?_) (a' := ?_) #[true, true, true, true, true, true, true, true, true, true, true, true, true, true, true, false, false, false, false, false, false, false, false, false, false, false, false, false, false, false, false, false, false, false, false, false, false, false, false, false, false, false, false, false, false, false, false, false, false, false, false, false] rfl rfl (by kernel_rfl) (panic_put (by decide)) (Or.inl ⟨by rfl, ?_⟩) ?_ ?_
              rotate_left
              · intro w'
                go_simp
                with_reducible rfl
              rotate_left
              · simp only [Act.put, List.setIfInBounds_toArray, List.set_cons_zero, List.set_cons_succ, i64_w, i32_w]
                rfl
              refine one_ (i := 15) (N := some 126) #[true, true, true, true, true, true, true, true, true, true, true, true, true, true, true, true, false, false, false, false, false, false, false, false, false, false, false, false, false, false, false, false, false, false, false, false, false, false, false, false, false, false, false, false, false, false, false, false, false, false, false, false] rfl rfl (by kernel_rfl) (by decide) (fun K hK => ?_)
              refine goes_ Try.func13 (by kernel_rfl) rfl #[.iface 38 (.int .i64 4), .int .i64 4] (by rfl) rfl rfl (by first | rfl | (simp only [List.map_toArray, List.map_cons, List.map_nil]; rfl)) ?_
              with_reducible refine ((is_no 4 rfl _)).mono ?_
              rintro e w7 ⟨rfl, rfl⟩
              refine ⟨_, rfl, ?_⟩
              refine hK.out _ _ ⟨hHeld.1, hHeld.2.1, hHeld.2.2⟩ (fun hHeld => ?_)
              clear hK K
              refine norm_ (a' := ?_) ?_ ?_
              rotate_left
              · show Act.put _ (some 126) _ = _
                simp only [Act.put, List.setIfInBounds_toArray, List.set_cons_zero, List.set_cons_succ, i64_w, i32_w]
                rfl
              refine pure_ (i := 16) (N := some 127) (v := ?_) (a' := ?_) #[true, true, true, true, true, true, true, true, true, true, true, true, true, true, true, true, true, false, false, false, false, false, false, false, false, false, false, false, false, false, false, false, false, false, false, false, false, false, false, false, false, false, false, false, false, false, false, false, false, false, false, false] rfl rfl (by kernel_rfl) (panic_put (by decide)) (Or.inl ⟨by rfl, ?_⟩) ?_ ?_
              rotate_left
              · intro w'
                go_simp
                with_reducible rfl
              rotate_left
              · simp only [Act.put, List.setIfInBounds_toArray, List.set_cons_zero, List.set_cons_succ, i64_w, i32_w]
                rfl
              refine pure_ (i := 17) (N := some 128) (v := ?_) (a' := ?_) #[true, true, true, true, true, true, true, true, true, true, true, true, true, true, true, true, true, true, false, false, false, false, false, false, false, false, false, false, false, false, false, false, false, false, false, false, false, false, false, false, false, false, false, false, false, false, false, false, false, false, false, false] rfl rfl (by kernel_rfl) (panic_put (by decide)) (Or.inl ⟨by rfl, ?_⟩) ?_ ?_
              rotate_left
              · intro w'
                go_simp
                with_reducible rfl
              rotate_left
              · simp only [Act.put, List.setIfInBounds_toArray, List.set_cons_zero, List.set_cons_succ, i64_w, i32_w]
                rfl
              refine pure_ (i := 18) (N := some 129) (v := ?_) (a' := ?_) #[true, true, true, true, true, true, true, true, true, true, true, true, true, true, true, true, true, true, true, false, false, false, false, false, false, false, false, false, false, false, false, false, false, false, false, false, false, false, false, false, false, false, false, false, false, false, false, false, false, false, false, false] rfl rfl (by kernel_rfl) (panic_put (by decide)) (Or.inl ⟨by rfl, ?_⟩) ?_ ?_
              rotate_left
              · intro w'
                go_simp
                with_reducible rfl
              rotate_left
              · simp only [Act.put, List.setIfInBounds_toArray, List.set_cons_zero, List.set_cons_succ, i64_w, i32_w]
                rfl
              refine one_ (i := 19) (N := some 130) #[true, true, true, true, true, true, true, true, true, true, true, true, true, true, true, true, true, true, true, true, false, false, false, false, false, false, false, false, false, false, false, false, false, false, false, false, false, false, false, false, false, false, false, false, false, false, false, false, false, false, false, false] rfl rfl (by kernel_rfl) (by decide) (fun K hK => ?_)
              refine goes_ Try.func12 (by kernel_rfl) rfl #[.pointer none, .int .u32 1, .int .i64 1] (by rfl) rfl rfl (by first | rfl | (simp only [List.map_toArray, List.map_cons, List.map_nil]; rfl)) ?_
              with_reducible refine ((set_none _ 1 1)).mono ?_
              rintro e w7 ⟨rfl, q19, rfl⟩
              refine ⟨_, rfl, ?_⟩
              refine hK.out _ _ ⟨hHeld.1, hHeld.2.1, hHeld.2.2⟩ (fun hHeld => ?_)
              clear hK K
              refine norm_ (a' := ?_) ?_ ?_
              rotate_left
              · show Act.put _ (some 130) _ = _
                simp only [Act.put, List.setIfInBounds_toArray, List.set_cons_zero, List.set_cons_succ, i64_w, i32_w]
                rfl
              refine one_ (i := 20) (N := some 131) #[true, true, true, true, true, true, true, true, true, true, true, true, true, true, true, true, true, true, true, true, true, false, false, false, false, false, false, false, false, false, false, false, false, false, false, false, false, false, false, false, false, false, false, false, false, false, false, false, false, false, false, false] rfl rfl (by kernel_rfl) (by decide) (fun K hK => ?_)
              refine goes_ Try.func13 (by kernel_rfl) rfl #[.iface 38 (.int .i64 4), .int .i64 4] (by rfl) rfl rfl (by first | rfl | (simp only [List.map_toArray, List.map_cons, List.map_nil]; rfl)) ?_
              with_reducible refine ((is_no 4 rfl _)).mono ?_
              rintro e w7 ⟨rfl, rfl⟩
              refine ⟨_, rfl, ?_⟩
              refine hK.out _ _ ⟨hHeld.1, hHeld.2.1, hHeld.2.2⟩ (fun hHeld => ?_)
              clear hK K
              refine norm_ (a' := ?_) ?_ ?_
              rotate_left
              · show Act.put _ (some 131) _ = _
                simp only [Act.put, List.setIfInBounds_toArray, List.set_cons_zero, List.set_cons_succ, i64_w, i32_w]
                rfl
              refine pure_ (i := 21) (N := some 132) (v := ?_) (a' := ?_) #[true, true, true, true, true, true, true, true, true, true, true, true, true, true, true, true, true, true, true, true, true, true, false, false, false, false, false, false, false, false, false, false, false, false, false, false, false, false, false, false, false, false, false, false, false, false, false, false, false, false, false, false] rfl rfl (by kernel_rfl) (panic_put (by decide)) (Or.inl ⟨by rfl, ?_⟩) ?_ ?_
              rotate_left
              · intro w'
                go_simp
                with_reducible rfl
              rotate_left
              · simp only [Act.put, List.setIfInBounds_toArray, List.set_cons_zero, List.set_cons_succ, i64_w, i32_w]
                rfl
              refine pure_ (i := 22) (N := some 133) (v := ?_) (a' := ?_) #[true, true, true, true, true, true, true, true, true, true, true, true, true, true, true, true, true, true, true, true, true, true, true, false, false, false, false, false, false, false, false, false, false, false, false, false, false, false, false, false, false, false, false, false, false, false, false, false, false, false, false, false] rfl rfl (by kernel_rfl) (panic_put (by decide)) (Or.inl ⟨by rfl, ?_⟩) ?_ ?_
              rotate_left
              · intro w'
                go_simp
                with_reducible rfl
              rotate_left
              · simp only [Act.put, List.setIfInBounds_toArray, List.set_cons_zero, List.set_cons_succ, i64_w, i32_w]
                rfl
              refine pure_ (i := 23) (N := some 134) (v := ?_) (a' := ?_) #[true, true, true, true, true, true, true, true, true, true, true, true, true, true, true, true, true, true, true, true, true, true, true, true, false, false, false, false, false, false, false, false, false, false, false, false, false, false, false, false, false, false, false, false, false, false, false, false, false, false, false, false] rfl rfl (by kernel_rfl) (panic_put (by decide)) (Or.inl ⟨by rfl, ?_⟩) ?_ ?_
              rotate_left
              · intro w'
                go_simp
                with_reducible rfl
              rotate_left
              · simp only [Act.put, List.setIfInBounds_toArray, List.set_cons_zero, List.set_cons_succ, i64_w, i32_w]
                rfl
              refine pure_ (i := 24) (N := some 135) (v := ?_) (a' := ?_) #[true, true, true, true, true, true, true, true, true, true, true, true, true, true, true, true, true, true, true, true, true, true, true, true, true, false, false, false, false, false, false, false, false, false, false, false, false, false, false, false, false, false, false, false, false, false, false, false, false, false, false, false] rfl rfl (by kernel_rfl) (panic_put (by decide)) (Or.inl ⟨by rfl, ?_⟩) ?_ ?_
              rotate_left
              · intro w'
                go_simp
                with_reducible rfl
              rotate_left
              · simp only [Act.put, List.setIfInBounds_toArray, List.set_cons_zero, List.set_cons_succ, i64_w, i32_w]
                rfl
              refine pure_ (i := 25) (N := some 136) (v := ?_) (a' := ?_) #[true, true, true, true, true, true, true, true, true, true, true, true, true, true, true, true, true, true, true, true, true, true, true, true, true, true, false, false, false, false, false, false, false, false, false, false, false, false, false, false, false, false, false, false, false, false, false, false, false, false, false, false] rfl rfl (by kernel_rfl) (panic_put (by decide)) (Or.inl ⟨by rfl, ?_⟩) ?_ ?_
              rotate_left
              · intro w'
                go_simp
                with_reducible rfl
              rotate_left
              · simp only [Act.put, List.setIfInBounds_toArray, List.set_cons_zero, List.set_cons_succ, i64_w, i32_w]
                rfl
              refine pure_ (i := 26) (N := some 137) (v := ?_) (a' := ?_) #[true, true, true, true, true, true, true, true, true, true, true, true, true, true, true, true, true, true, true, true, true, true, true, true, true, true, true, false, false, false, false, false, false, false, false, false, false, false, false, false, false, false, false, false, false, false, false, false, false, false, false, false] rfl rfl (by kernel_rfl) (panic_put (by decide)) (Or.inl ⟨by rfl, ?_⟩) ?_ ?_
              rotate_left
              · intro w'
                go_simp
                with_reducible rfl
              rotate_left
              · simp only [Act.put, List.setIfInBounds_toArray, List.set_cons_zero, List.set_cons_succ, i64_w, i32_w]
                rfl
              refine pure_ (i := 27) (N := some 138) (v := ?_) (a' := ?_) #[true, true, true, true, true, true, true, true, true, true, true, true, true, true, true, true, true, true, true, true, true, true, true, true, true, true, true, true, false, false, false, false, false, false, false, false, false, false, false, false, false, false, false, false, false, false, false, false, false, false, false, false] rfl rfl (by kernel_rfl) (panic_put (by decide)) (Or.inl ⟨by rfl, ?_⟩) ?_ ?_
              rotate_left
              · intro w'
                go_simp
                with_reducible rfl
              rotate_left
              · simp only [Act.put, List.setIfInBounds_toArray, List.set_cons_zero, List.set_cons_succ, i64_w, i32_w]
                rfl
              refine one_ (i := 28) (N := some 139) #[true, true, true, true, true, true, true, true, true, true, true, true, true, true, true, true, true, true, true, true, true, true, true, true, true, true, true, true, true, false, false, false, false, false, false, false, false, false, false, false, false, false, false, false, false, false, false, false, false, false, false, false] rfl rfl (by kernel_rfl) (by decide) (fun K hK => ?_)
              refine goes_ Try.func16 (by kernel_rfl) rfl #[.pointer none] (by rfl) rfl rfl (by first | rfl | (simp only [List.map_toArray, List.map_cons, List.map_nil]; rfl)) ?_
              with_reducible refine ((from_none _)).mono ?_
              rintro e w7 ⟨rfl, q28, rfl⟩
              refine ⟨_, rfl, ?_⟩
              refine hK.out _ _ ⟨hHeld.1, hHeld.2.1, hHeld.2.2⟩ (fun hHeld => ?_)
              clear hK K
              refine norm_ (a' := ?_) ?_ ?_
              rotate_left
              · show Act.put _ (some 139) _ = _
                simp only [Act.put, List.setIfInBounds_toArray, List.set_cons_zero, List.set_cons_succ, i64_w, i32_w]
                rfl
              refine pure_ (i := 29) (N := some 140) (v := ?_) (a' := ?_) #[true, true, true, true, true, true, true, true, true, true, true, true, true, true, true, true, true, true, true, true, true, true, true, true, true, true, true, true, true, true, false, false, false, false, false, false, false, false, false, false, false, false, false, false, false, false, false, false, false, false, false, false] rfl rfl (by kernel_rfl) (panic_put (by decide)) (Or.inl ⟨by rfl, ?_⟩) ?_ ?_
              rotate_left
              · intro w'
                go_simp
                with_reducible rfl
              rotate_left
              · simp only [Act.put, List.setIfInBounds_toArray, List.set_cons_zero, List.set_cons_succ, i64_w, i32_w]
                rfl
              refine pure_ (i := 30) (N := some 141) (v := ?_) (a' := ?_) #[true, true, true, true, true, true, true, true, true, true, true, true, true, true, true, true, true, true, true, true, true, true, true, true, true, true, true, true, true, true, true, false, false, false, false, false, false, false, false, false, false, false, false, false, false, false, false, false, false, false, false, false] rfl rfl (by kernel_rfl) (panic_put (by decide)) (Or.inl ⟨by rfl, ?_⟩) ?_ ?_
              rotate_left
              · intro w'
                go_simp
                with_reducible rfl
              rotate_left
              · simp only [Act.put, List.setIfInBounds_toArray, List.set_cons_zero, List.set_cons_succ, i64_w, i32_w]
                rfl
              refine pure_ (i := 31) (N := some 142) (v := ?_) (a' := ?_) #[true, true, true, true, true, true, true, true, true, true, true, true, true, true, true, true, true, true, true, true, true, true, true, true, true, true, true, true, true, true, true, true, false, false, false, false, false, false, false, false, false, false, false, false, false, false, false, false, false, false, false, false] rfl rfl (by kernel_rfl) (panic_put (by decide)) (Or.inl ⟨by rfl, ?_⟩) ?_ ?_
              rotate_left
              · intro w'
                go_simp
                with_reducible rfl
              rotate_left
              · simp only [Act.put, List.setIfInBounds_toArray, List.set_cons_zero, List.set_cons_succ, i64_w, i32_w]
                rfl
              refine pure_ (i := 32) (N := some 143) (v := ?_) (a' := ?_) #[true, true, true, true, true, true, true, true, true, true, true, true, true, true, true, true, true, true, true, true, true, true, true, true, true, true, true, true, true, true, true, true, true, false, false, false, false, false, false, false, false, false, false, false, false, false, false, false, false, false, false, false] rfl rfl (by kernel_rfl) (panic_put (by decide)) (Or.inl ⟨by rfl, ?_⟩) ?_ ?_
              rotate_left
              · intro w'
                go_simp
                with_reducible rfl
              rotate_left
              · simp only [Act.put, List.setIfInBounds_toArray, List.set_cons_zero, List.set_cons_succ, i64_w, i32_w]
                rfl
              refine one_ (i := 33) (N := some 144) #[true, true, true, true, true, true, true, true, true, true, true, true, true, true, true, true, true, true, true, true, true, true, true, true, true, true, true, true, true, true, true, true, true, true, false, false, false, false, false, false, false, false, false, false, false, false, false, false, false, false, false, false] rfl rfl (by kernel_rfl) (by decide) (fun K hK => ?_)
              refine goes_ Try.func18 (by kernel_rfl) rfl #[.pointer none] (by rfl) rfl rfl (by first | rfl | (simp only [List.map_toArray, List.map_cons, List.map_nil]; rfl)) ?_
              with_reducible refine ((next_none _)).mono ?_
              rintro e w7 ⟨rfl, q33, rfl⟩
              refine ⟨_, rfl, ?_⟩
              refine hK.out _ _ ⟨hHeld.1, hHeld.2.1, hHeld.2.2⟩ (fun hHeld => ?_)
              clear hK K
              refine norm_ (a' := ?_) ?_ ?_
              rotate_left
              · show Act.put _ (some 144) _ = _
                simp only [Act.put, List.setIfInBounds_toArray, List.set_cons_zero, List.set_cons_succ, i64_w, i32_w]
                rfl
              refine pure_ (i := 34) (N := some 145) (v := ?_) (a' := ?_) #[true, true, true, true, true, true, true, true, true, true, true, true, true, true, true, true, true, true, true, true, true, true, true, true, true, true, true, true, true, true, true, true, true, true, true, false, false, false, false, false, false, false, false, false, false, false, false, false, false, false, false, false] rfl rfl (by kernel_rfl) (panic_put (by decide)) (Or.inl ⟨by rfl, ?_⟩) ?_ ?_
              rotate_left
              · intro w'
                go_simp
                with_reducible rfl
              rotate_left
              · simp only [Act.put, List.setIfInBounds_toArray, List.set_cons_zero, List.set_cons_succ, i64_w, i32_w]
                rfl
              refine pure_ (i := 35) (N := some 146) (v := ?_) (a' := ?_) #[true, true, true, true, true, true, true, true, true, true, true, true, true, true, true, true, true, true, true, true, true, true, true, true, true, true, true, true, true, true, true, true, true, true, true, true, false, false, false, false, false, false, false, false, false, false, false, false, false, false, false, false] rfl rfl (by kernel_rfl) (panic_put (by decide)) (Or.inl ⟨by rfl, ?_⟩) ?_ ?_
              rotate_left
              · intro w'
                go_simp
                with_reducible rfl
              rotate_left
              · simp only [Act.put, List.setIfInBounds_toArray, List.set_cons_zero, List.set_cons_succ, i64_w, i32_w]
                rfl
              refine pure_ (i := 36) (N := some 147) (v := ?_) (a' := ?_) #[true, true, true, true, true, true, true, true, true, true, true, true, true, true, true, true, true, true, true, true, true, true, true, true, true, true, true, true, true, true, true, true, true, true, true, true, true, false, false, false, false, false, false, false, false, false, false, false, false, false, false, false] rfl rfl (by kernel_rfl) (panic_put (by decide)) (Or.inl ⟨by rfl, ?_⟩) ?_ ?_
              rotate_left
              · intro w'
                go_simp
                with_reducible rfl
              rotate_left
              · simp only [Act.put, List.setIfInBounds_toArray, List.set_cons_zero, List.set_cons_succ, i64_w, i32_w]
                rfl
              refine pure_ (i := 37) (N := some 148) (v := ?_) (a' := ?_) #[true, true, true, true, true, true, true, true, true, true, true, true, true, true, true, true, true, true, true, true, true, true, true, true, true, true, true, true, true, true, true, true, true, true, true, true, true, true, false, false, false, false, false, false, false, false, false, false, false, false, false, false] rfl rfl (by kernel_rfl) (panic_put (by decide)) (Or.inl ⟨by rfl, ?_⟩) ?_ ?_
              rotate_left
              · intro w'
                go_simp
                with_reducible rfl
              rotate_left
              · simp only [Act.put, List.setIfInBounds_toArray, List.set_cons_zero, List.set_cons_succ, i64_w, i32_w]
                rfl
              refine one_ (i := 38) (N := some 149) #[true, true, true, true, true, true, true, true, true, true, true, true, true, true, true, true, true, true, true, true, true, true, true, true, true, true, true, true, true, true, true, true, true, true, true, true, true, true, true, false, false, false, false, false, false, false, false, false, false, false, false, false] rfl rfl (by kernel_rfl) (by decide) (fun K hK => ?_)
              refine goes_ Try.func11 (by kernel_rfl) rfl #[.pointer none] (by rfl) rfl rfl (by first | rfl | (simp only [List.map_toArray, List.map_cons, List.map_nil]; rfl)) ?_
              with_reducible refine ((len_none _)).mono ?_
              rintro e w7 ⟨rfl, q38, rfl⟩
              refine ⟨_, rfl, ?_⟩
              refine hK.out _ _ ⟨hHeld.1, hHeld.2.1, hHeld.2.2⟩ (fun hHeld => ?_)
              clear hK K
              refine norm_ (a' := ?_) ?_ ?_
              rotate_left
              · show Act.put _ (some 149) _ = _
                simp only [Act.put, List.setIfInBounds_toArray, List.set_cons_zero, List.set_cons_succ, i64_w, i32_w]
                rfl
              refine pure_ (i := 39) (N := some 150) (v := ?_) (a' := ?_) #[true, true, true, true, true, true, true, true, true, true, true, true, true, true, true, true, true, true, true, true, true, true, true, true, true, true, true, true, true, true, true, true, true, true, true, true, true, true, true, true, false, false, false, false, false, false, false, false, false, false, false, false] rfl rfl (by kernel_rfl) (panic_put (by decide)) (Or.inl ⟨by rfl, ?_⟩) ?_ ?_
              rotate_left
              · intro w'
                go_simp
                with_reducible rfl
              rotate_left
              · simp only [Act.put, List.setIfInBounds_toArray, List.set_cons_zero, List.set_cons_succ, i64_w, i32_w]
                rfl
              refine pure_ (i := 40) (N := some 151) (v := ?_) (a' := ?_) #[true, true, true, true, true, true, true, true, true, true, true, true, true, true, true, true, true, true, true, true, true, true, true, true, true, true, true, true, true, true, true, true, true, true, true, true, true, true, true, true, true, false, false, false, false, false, false, false, false, false, false, false] rfl rfl (by kernel_rfl) (panic_put (by decide)) (Or.inl ⟨by rfl, ?_⟩) ?_ ?_
              rotate_left
              · intro w'
                go_simp
                with_reducible rfl
              rotate_left
              · simp only [Act.put, List.setIfInBounds_toArray, List.set_cons_zero, List.set_cons_succ, i64_w, i32_w]
                rfl
              refine pure_ (i := 41) (N := some 152) (v := ?_) (a' := ?_) #[true, true, true, true, true, true, true, true, true, true, true, true, true, true, true, true, true, true, true, true, true, true, true, true, true, true, true, true, true, true, true, true, true, true, true, true, true, true, true, true, true, true, false, false, false, false, false, false, false, false, false, false] rfl rfl (by kernel_rfl) (panic_put (by decide)) (Or.inl ⟨by rfl, ?_⟩) ?_ ?_
              rotate_left
              · intro w'
                go_simp
                with_reducible rfl
              rotate_left
              · simp only [Act.put, List.setIfInBounds_toArray, List.set_cons_zero, List.set_cons_succ, i64_w, i32_w]
                rfl
              refine pure_ (i := 42) (N := some 153) (v := ?_) (a' := ?_) #[true, true, true, true, true, true, true, true, true, true, true, true, true, true, true, true, true, true, true, true, true, true, true, true, true, true, true, true, true, true, true, true, true, true, true, true, true, true, true, true, true, true, true, false, false, false, false, false, false, false, false, false] rfl rfl (by kernel_rfl) (panic_put (by decide)) (Or.inl ⟨by rfl, ?_⟩) ?_ ?_
              rotate_left
              · intro w'
                go_simp
                with_reducible rfl
              rotate_left
              · simp only [Act.put, List.setIfInBounds_toArray, List.set_cons_zero, List.set_cons_succ, i64_w, i32_w]
                rfl
              refine one_ (i := 43) (N := some 154) #[true, true, true, true, true, true, true, true, true, true, true, true, true, true, true, true, true, true, true, true, true, true, true, true, true, true, true, true, true, true, true, true, true, true, true, true, true, true, true, true, true, true, true, true, false, false, false, false, false, false, false, false] rfl rfl (by kernel_rfl) (by decide) (fun K hK => ?_)
              refine goes_ Try.func25 (by kernel_rfl) rfl #[.pointer none] (by rfl) rfl rfl (by first | rfl | (simp only [List.map_toArray, List.map_cons, List.map_nil]; rfl)) ?_
              with_reducible refine ((free_none _)).mono ?_
              rintro e w7 ⟨rfl, q43, rfl⟩
              refine ⟨_, rfl, ?_⟩
              refine hK.out _ _ ⟨hHeld.1, hHeld.2.1, hHeld.2.2⟩ (fun hHeld => ?_)
              clear hK K
              refine norm_ (a' := ?_) ?_ ?_
              rotate_left
              · show Act.put _ (some 154) _ = _
                simp only [Act.put, List.setIfInBounds_toArray, List.set_cons_zero, List.set_cons_succ, i64_w, i32_w]
                rfl
              refine pure_ (i := 44) (N := some 155) (v := ?_) (a' := ?_) #[true, true, true, true, true, true, true, true, true, true, true, true, true, true, true, true, true, true, true, true, true, true, true, true, true, true, true, true, true, true, true, true, true, true, true, true, true, true, true, true, true, true, true, true, true, false, false, false, false, false, false, false] rfl rfl (by kernel_rfl) (panic_put (by decide)) (Or.inl ⟨by rfl, ?_⟩) ?_ ?_
              rotate_left
              · intro w'
                go_simp
                with_reducible rfl
              rotate_left
              · simp only [Act.put, List.setIfInBounds_toArray, List.set_cons_zero, List.set_cons_succ, i64_w, i32_w]
                rfl
              refine pure_ (i := 45) (N := some 156) (v := ?_) (a' := ?_) #[true, true, true, true, true, true, true, true, true, true, true, true, true, true, true, true, true, true, true, true, true, true, true, true, true, true, true, true, true, true, true, true, true, true, true, true, true, true, true, true, true, true, true, true, true, true, false, false, false, false, false, false] rfl rfl (by kernel_rfl) (panic_put (by decide)) (Or.inl ⟨by rfl, ?_⟩) ?_ ?_
              rotate_left
              · intro w'
                go_simp
                with_reducible rfl
              rotate_left
              · simp only [Act.put, List.setIfInBounds_toArray, List.set_cons_zero, List.set_cons_succ, i64_w, i32_w]
                rfl
              refine pure_ (i := 46) (N := some 157) (v := ?_) (a' := ?_) #[true, true, true, true, true, true, true, true, true, true, true, true, true, true, true, true, true, true, true, true, true, true, true, true, true, true, true, true, true, true, true, true, true, true, true, true, true, true, true, true, true, true, true, true, true, true, true, false, false, false, false, false] rfl rfl (by kernel_rfl) (panic_put (by decide)) (Or.inl ⟨by rfl, ?_⟩) ?_ ?_
              rotate_left
              · intro w'
                go_simp
                with_reducible rfl
              rotate_left
              · simp only [Act.put, List.setIfInBounds_toArray, List.set_cons_zero, List.set_cons_succ, i64_w, i32_w]
                rfl
              refine pure_ (i := 47) (N := some 158) (v := ?_) (a' := ?_) #[true, true, true, true, true, true, true, true, true, true, true, true, true, true, true, true, true, true, true, true, true, true, true, true, true, true, true, true, true, true, true, true, true, true, true, true, true, true, true, true, true, true, true, true, true, true, true, true, false, false, false, false] rfl rfl (by kernel_rfl) (panic_put (by decide)) (Or.inl ⟨by rfl, ?_⟩) ?_ ?_
              rotate_left
              · intro w'
                go_simp
                with_reducible rfl
              rotate_left
              · simp only [Act.put, List.setIfInBounds_toArray, List.set_cons_zero, List.set_cons_succ, i64_w, i32_w]
                rfl
              refine one_ (i := 48) (N := some 159) #[true, true, true, true, true, true, true, true, true, true, true, true, true, true, true, true, true, true, true, true, true, true, true, true, true, true, true, true, true, true, true, true, true, true, true, true, true, true, true, true, true, true, true, true, true, true, true, true, true, false, false, false] rfl rfl (by kernel_rfl) (by decide) (fun K hK => ?_)
              refine goes_ Try.func22 (by kernel_rfl) rfl #[.pointer none] (by rfl) rfl rfl (by first | rfl | (simp only [List.map_toArray, List.map_cons, List.map_nil]; rfl)) ?_
              with_reducible refine ((copy_none _)).mono ?_
              rintro e w7 ⟨rfl, q48, rfl⟩
              refine ⟨_, rfl, ?_⟩
              refine hK.out _ _ ⟨hHeld.1, hHeld.2.1, hHeld.2.2⟩ (fun hHeld => ?_)
              clear hK K
              refine norm_ (a' := ?_) ?_ ?_
              rotate_left
              · show Act.put _ (some 159) _ = _
                simp only [Act.put, List.setIfInBounds_toArray, List.set_cons_zero, List.set_cons_succ, i64_w, i32_w]
                rfl
              refine pure_ (i := 49) (N := some 160) (v := ?_) (a' := ?_) #[true, true, true, true, true, true, true, true, true, true, true, true, true, true, true, true, true, true, true, true, true, true, true, true, true, true, true, true, true, true, true, true, true, true, true, true, true, true, true, true, true, true, true, true, true, true, true, true, true, true, false, false] rfl rfl (by kernel_rfl) (panic_put (by decide)) (Or.inl ⟨by rfl, ?_⟩) ?_ ?_
              rotate_left
              · intro w'
                go_simp
                with_reducible rfl
              rotate_left
              · simp only [Act.put, List.setIfInBounds_toArray, List.set_cons_zero, List.set_cons_succ, i64_w, i32_w]
                rfl
              refine pure_ (i := 50) (N := some 161) (v := ?_) (a' := ?_) #[true, true, true, true, true, true, true, true, true, true, true, true, true, true, true, true, true, true, true, true, true, true, true, true, true, true, true, true, true, true, true, true, true, true, true, true, true, true, true, true, true, true, true, true, true, true, true, true, true, true, true, false] rfl rfl (by kernel_rfl) (panic_put (by decide)) (Or.inl ⟨by rfl, ?_⟩) ?_ ?_
              rotate_left
              · intro w'
                go_simp
                with_reducible rfl
              rotate_left
              · simp only [Act.put, List.setIfInBounds_toArray, List.set_cons_zero, List.set_cons_succ, i64_w, i32_w]
                rfl
              refine last_ (i := 51) (N := none) #[true, true, true, true, true, true, true, true, true, true, true, true, true, true, true, true, true, true, true, true, true, true, true, true, true, true, true, true, true, true, true, true, true, true, true, true, true, true, true, true, true, true, true, true, true, true, true, true, true, true, true, true] rfl rfl (by kernel_rfl) (by decide) (fun K hK => ?_)
              refine skip_ (w1 := ?_) (by rfl) rfl ?_ ?_
              rotate_left
              · go_simp
                rfl
              refine hK.out _ _ ?_
              clear hK K
              refine done_ (by kernel_rfl) ?_
              go_wp2_with fail
              refine out_two ?_ ?_ ?_ HE.out.1 HE.out.2.1 HE.out.2.2.1 HGW.out HE.out.2.2.2.1 HE.out.2.2.2.2 ?_ _ rfl
              · exact HGE.out
              · exact HKE.out.2.1
              · exact HKE.out.2.2
              · exact pw_below_drewN HWE.out _
            · have h1i : ¬ (Ln : Int) < 1 := by omega
              have hck : wE.drew.cell? ⟨gk, 0, none⟩ = some (.int .i64 1) := (blk_cell HKE.out.1 0).trans rfl
              have hcg : wE.drew.cell? ⟨g, 0, none⟩ = some (.bool false) := (blk_cell HGE.out 0).trans rfl
              have hfg : wE.drew.frozen? ⟨g, 0, none⟩ = false := blk_frozen HGE.out 0
              have hcg0 : wE.cell? ⟨g, 0, none⟩ = some (.bool false) := (blk_cell HGE.out 0).trans rfl
              have hfg0 : wE.frozen? ⟨g, 0, none⟩ = false := blk_frozen HGE.out 0
              go_wp2_with fail
              have hF : ¬ ((Ln : Int) < 1) := by omega
              refine start_ (n := 52) (S := fun w' => w'.cell? ⟨gk, 0, none⟩ = some (.int .i64 1) ∧ w'.cell? ⟨g, 0, none⟩ = some (.bool false) ∧ w'.frozen? ⟨g, 0, none⟩ = false) (ds := [51]) #[false, false, false, false, false, false, false, false, false, false, false, false, false, false, false, false, false, false, false, false, false, false, false, false, false, false, false, false, false, false, false, false, false, false, false, false, false, false, false, false, false, false, false, false, false, false, false, false, false, false, false, false] (by kernel_rfl) rfl rfl ⟨hck, hcg, hfg⟩ (fun hHeld => ?_)
              refine pure_ (i := 1) (N := some 112) (v := ?_) (a' := ?_) #[false, true, false, false, false, false, false, false, false, false, false, false, false, false, false, false, false, false, false, false, false, false, false, false, false, false, false, false, false, false, false, false, false, false, false, false, false, false, false, false, false, false, false, false, false, false, false, false, false, false, false, false] rfl rfl (by kernel_rfl) (panic_put (by decide)) (Or.inl ⟨by rfl, ?_⟩) ?_ ?_
              rotate_left
              · intro w'
                go_simp
                with_reducible rfl
              rotate_left
              · simp only [Act.put, List.setIfInBounds_toArray, List.set_cons_zero, List.set_cons_succ, i64_w, i32_w]
                rfl
              refine take_ (i := 0) (N := some 111) (v := ?_) (a' := ?_) #[true, true, false, false, false, false, false, false, false, false, false, false, false, false, false, false, false, false, false, false, false, false, false, false, false, false, false, false, false, false, false, false, false, false, false, false, false, false, false, false, false, false, false, false, false, false, false, false, false, false, false, false] rfl rfl (by kernel_rfl) (panic_put (by decide)) (Or.inl ⟨by rfl, ?_⟩) hHeld ?_ ?_
              rotate_left
              · rintro w' ⟨s0, s1, s2⟩
                go_simp
                with_reducible rfl
              rotate_left
              · simp only [Act.put, List.setIfInBounds_toArray, List.set_cons_zero, List.set_cons_succ, i64_w, i32_w]
                rfl
              refine one_ (i := 2) (N := some 113) #[true, true, true, false, false, false, false, false, false, false, false, false, false, false, false, false, false, false, false, false, false, false, false, false, false, false, false, false, false, false, false, false, false, false, false, false, false, false, false, false, false, false, false, false, false, false, false, false, false, false, false, false] rfl rfl (by kernel_rfl) (by decide) (fun K hK => ?_)
              refine goes_ Try.func11 (by kernel_rfl) rfl #[.pointer (some ⟨p, 0, none⟩)] (by rfl) rfl rfl (by first | rfl | (simp only [List.map_toArray, List.map_cons, List.map_nil]; rfl)) ?_
              with_reducible refine (HLn.out).mono ?_
              rintro e w7 ⟨rfl, rfl⟩
              refine ⟨_, rfl, ?_⟩
              refine hK.out _ _ ⟨hHeld.1, hHeld.2.1, hHeld.2.2⟩ (fun hHeld => ?_)
              clear hK K
              refine norm_ (a' := ?_) ?_ ?_
              rotate_left
              · show Act.put _ (some 113) _ = _
                simp only [Act.put, List.setIfInBounds_toArray, List.set_cons_zero, List.set_cons_succ, i64_w, i32_w]
                rfl
              refine pure_ (i := 3) (N := some 114) (v := ?_) (a' := ?_) #[true, true, true, true, false, false, false, false, false, false, false, false, false, false, false, false, false, false, false, false, false, false, false, false, false, false, false, false, false, false, false, false, false, false, false, false, false, false, false, false, false, false, false, false, false, false, false, false, false, false, false, false] rfl rfl (by kernel_rfl) (panic_put (by decide)) (Or.inl ⟨by rfl, ?_⟩) ?_ ?_
              rotate_left
              · intro w'
                go_simp
                with_reducible rfl
              rotate_left
              · simp only [Act.put, List.setIfInBounds_toArray, List.set_cons_zero, List.set_cons_succ, i64_w, i32_w]
                rfl
              refine pure_ (i := 4) (N := some 115) (v := ?_) (a' := ?_) #[true, true, true, true, true, false, false, false, false, false, false, false, false, false, false, false, false, false, false, false, false, false, false, false, false, false, false, false, false, false, false, false, false, false, false, false, false, false, false, false, false, false, false, false, false, false, false, false, false, false, false, false] rfl rfl (by kernel_rfl) (panic_put (by decide)) (Or.inl ⟨by rfl, ?_⟩) ?_ ?_
              rotate_left
              · intro w'
                go_simp
                with_reducible rfl
              rotate_left
              · simp only [Act.put, List.setIfInBounds_toArray, List.set_cons_zero, List.set_cons_succ, i64_w, i32_w]
                rfl
              refine pure_ (i := 5) (N := some 116) (v := ?_) (a' := ?_) #[true, true, true, true, true, true, false, false, false, false, false, false, false, false, false, false, false, false, false, false, false, false, false, false, false, false, false, false, false, false, false, false, false, false, false, false, false, false, false, false, false, false, false, false, false, false, false, false, false, false, false, false] rfl rfl (by kernel_rfl) (panic_put (by decide)) (Or.inl ⟨by rfl, ?_⟩) ?_ ?_
              rotate_left
              · intro w'
                go_simp
                with_reducible rfl
              rotate_left
              · simp only [Act.put, List.setIfInBounds_toArray, List.set_cons_zero, List.set_cons_succ, i64_w, i32_w]
                rfl
              refine pure_ (i := 6) (N := some 117) (v := ?_) (a' := ?_) #[true, true, true, true, true, true, true, false, false, false, false, false, false, false, false, false, false, false, false, false, false, false, false, false, false, false, false, false, false, false, false, false, false, false, false, false, false, false, false, false, false, false, false, false, false, false, false, false, false, false, false, false] rfl rfl (by kernel_rfl) (panic_put (by decide)) (Or.inl ⟨by rfl, ?_⟩) ?_ ?_
              rotate_left
              · intro w'
                go_simp
                with_reducible rfl
              rotate_left
              · simp only [Act.put, List.setIfInBounds_toArray, List.set_cons_zero, List.set_cons_succ, i64_w, i32_w]
                rfl
              refine one_ (i := 7) (N := some 118) #[true, true, true, true, true, true, true, true, false, false, false, false, false, false, false, false, false, false, false, false, false, false, false, false, false, false, false, false, false, false, false, false, false, false, false, false, false, false, false, false, false, false, false, false, false, false, false, false, false, false, false, false] rfl rfl (by kernel_rfl) (by decide) (fun K hK => ?_)
              refine goes_ Try.func13 (by kernel_rfl) rfl #[.iface 38 (.int .i64 3), .int .i64 3] (by rfl) rfl rfl (by first | rfl | (simp only [List.map_toArray, List.map_cons, List.map_nil]; rfl)) ?_
              with_reducible refine ((is_no 3 rfl _)).mono ?_
              rintro e w7 ⟨rfl, rfl⟩
              refine ⟨_, rfl, ?_⟩
              refine hK.out _ _ ⟨hHeld.1, hHeld.2.1, hHeld.2.2⟩ (fun hHeld => ?_)
              clear hK K
              refine norm_ (a' := ?_) ?_ ?_
              rotate_left
              · show Act.put _ (some 118) _ = _
                simp only [Act.put, List.setIfInBounds_toArray, List.set_cons_zero, List.set_cons_succ, i64_w, i32_w]
                rfl
              refine pure_ (i := 8) (N := some 119) (v := ?_) (a' := ?_) #[true, true, true, true, true, true, true, true, true, false, false, false, false, false, false, false, false, false, false, false, false, false, false, false, false, false, false, false, false, false, false, false, false, false, false, false, false, false, false, false, false, false, false, false, false, false, false, false, false, false, false, false] rfl rfl (by kernel_rfl) (panic_put (by decide)) (Or.inl ⟨by rfl, ?_⟩) ?_ ?_
              rotate_left
              · intro w'
                go_simp
                with_reducible rfl
              rotate_left
              · simp only [Act.put, List.setIfInBounds_toArray, List.set_cons_zero, List.set_cons_succ, i64_w, i32_w]
                rfl
              refine pure_ (i := 9) (N := some 120) (v := ?_) (a' := ?_) #[true, true, true, true, true, true, true, true, true, true, false, false, false, false, false, false, false, false, false, false, false, false, false, false, false, false, false, false, false, false, false, false, false, false, false, false, false, false, false, false, false, false, false, false, false, false, false, false, false, false, false, false] rfl rfl (by kernel_rfl) (panic_put (by decide)) (Or.inl ⟨by rfl, ?_⟩) ?_ ?_
              rotate_left
              · intro w'
                go_simp
                with_reducible rfl
              rotate_left
              · simp only [Act.put, List.setIfInBounds_toArray, List.set_cons_zero, List.set_cons_succ, i64_w, i32_w]
                rfl
              refine pure_ (i := 10) (N := some 121) (v := ?_) (a' := ?_) #[true, true, true, true, true, true, true, true, true, true, true, false, false, false, false, false, false, false, false, false, false, false, false, false, false, false, false, false, false, false, false, false, false, false, false, false, false, false, false, false, false, false, false, false, false, false, false, false, false, false, false, false] rfl rfl (by kernel_rfl) (panic_put (by decide)) (Or.inl ⟨by rfl, ?_⟩) ?_ ?_
              rotate_left
              · intro w'
                go_simp
                with_reducible rfl
              rotate_left
              · simp only [Act.put, List.setIfInBounds_toArray, List.set_cons_zero, List.set_cons_succ, i64_w, i32_w]
                rfl
              refine one_ (i := 11) (N := some 122) #[true, true, true, true, true, true, true, true, true, true, true, true, false, false, false, false, false, false, false, false, false, false, false, false, false, false, false, false, false, false, false, false, false, false, false, false, false, false, false, false, false, false, false, false, false, false, false, false, false, false, false, false] rfl rfl (by kernel_rfl) (by decide) (fun K hK => ?_)
              refine goes_ Try.func13 (by kernel_rfl) rfl #[.iface 38 (.int .i64 4), .int .i64 4] (by rfl) rfl rfl (by first | rfl | (simp only [List.map_toArray, List.map_cons, List.map_nil]; rfl)) ?_
              with_reducible refine ((is_no 4 rfl _)).mono ?_
              rintro e w7 ⟨rfl, rfl⟩
              refine ⟨_, rfl, ?_⟩
              refine hK.out _ _ ⟨hHeld.1, hHeld.2.1, hHeld.2.2⟩ (fun hHeld => ?_)
              clear hK K
              refine norm_ (a' := ?_) ?_ ?_
              rotate_left
              · show Act.put _ (some 122) _ = _
                simp only [Act.put, List.setIfInBounds_toArray, List.set_cons_zero, List.set_cons_succ, i64_w, i32_w]
                rfl
              refine pure_ (i := 12) (N := some 123) (v := ?_) (a' := ?_) #[true, true, true, true, true, true, true, true, true, true, true, true, true, false, false, false, false, false, false, false, false, false, false, false, false, false, false, false, false, false, false, false, false, false, false, false, false, false, false, false, false, false, false, false, false, false, false, false, false, false, false, false] rfl rfl (by kernel_rfl) (panic_put (by decide)) (Or.inl ⟨by rfl, ?_⟩) ?_ ?_
              rotate_left
              · intro w'
                go_simp
                with_reducible rfl
              rotate_left
              · simp only [Act.put, List.setIfInBounds_toArray, List.set_cons_zero, List.set_cons_succ, i64_w, i32_w]
                rfl
              refine pure_ (i := 13) (N := some 124) (v := ?_) (a' := ?_) #[true, true, true, true, true, true, true, true, true, true, true, true, true, true, false, false, false, false, false, false, false, false, false, false, false, false, false, false, false, false, false, false, false, false, false, false, false, false, false, false, false, false, false, false, false, false, false, false, false, false, false, false] rfl rfl (by kernel_rfl) (panic_put (by decide)) (Or.inl ⟨by rfl, ?_⟩) ?_ ?_
              rotate_left
              · intro w'
                go_simp
                with_reducible rfl
              rotate_left
              · simp only [Act.put, List.setIfInBounds_toArray, List.set_cons_zero, List.set_cons_succ, i64_w, i32_w]
                rfl
              refine pure_ (i := 14) (N := some 125) (v := ?_) (a' := ?_) #[true, true, true, true, true, true, true, true, true, true, true, true, true, true, true, false, false, false, false, false, false, false, false, false, false, false, false, false, false, false, false, false, false, false, false, false, false, false, false, false, false, false, false, false, false, false, false, false, false, false, false, false] rfl rfl (by kernel_rfl) (panic_put (by decide)) (Or.inl ⟨by rfl, ?_⟩) ?_ ?_
              rotate_left
              · intro w'
                go_simp
                with_reducible rfl
              rotate_left
              · simp only [Act.put, List.setIfInBounds_toArray, List.set_cons_zero, List.set_cons_succ, i64_w, i32_w]
                rfl
              refine one_ (i := 15) (N := some 126) #[true, true, true, true, true, true, true, true, true, true, true, true, true, true, true, true, false, false, false, false, false, false, false, false, false, false, false, false, false, false, false, false, false, false, false, false, false, false, false, false, false, false, false, false, false, false, false, false, false, false, false, false] rfl rfl (by kernel_rfl) (by decide) (fun K hK => ?_)
              refine goes_ Try.func13 (by kernel_rfl) rfl #[.iface 38 (.int .i64 4), .int .i64 4] (by rfl) rfl rfl (by first | rfl | (simp only [List.map_toArray, List.map_cons, List.map_nil]; rfl)) ?_
              with_reducible refine ((is_no 4 rfl _)).mono ?_
              rintro e w7 ⟨rfl, rfl⟩
              refine ⟨_, rfl, ?_⟩
              refine hK.out _ _ ⟨hHeld.1, hHeld.2.1, hHeld.2.2⟩ (fun hHeld => ?_)
              clear hK K
              refine norm_ (a' := ?_) ?_ ?_
              rotate_left
              · show Act.put _ (some 126) _ = _
                simp only [Act.put, List.setIfInBounds_toArray, List.set_cons_zero, List.set_cons_succ, i64_w, i32_w]
                rfl
              refine pure_ (i := 16) (N := some 127) (v := ?_) (a' := ?_) #[true, true, true, true, true, true, true, true, true, true, true, true, true, true, true, true, true, false, false, false, false, false, false, false, false, false, false, false, false, false, false, false, false, false, false, false, false, false, false, false, false, false, false, false, false, false, false, false, false, false, false, false] rfl rfl (by kernel_rfl) (panic_put (by decide)) (Or.inl ⟨by rfl, ?_⟩) ?_ ?_
              rotate_left
              · intro w'
                go_simp
                with_reducible rfl
              rotate_left
              · simp only [Act.put, List.setIfInBounds_toArray, List.set_cons_zero, List.set_cons_succ, i64_w, i32_w]
                rfl
              refine pure_ (i := 17) (N := some 128) (v := ?_) (a' := ?_) #[true, true, true, true, true, true, true, true, true, true, true, true, true, true, true, true, true, true, false, false, false, false, false, false, false, false, false, false, false, false, false, false, false, false, false, false, false, false, false, false, false, false, false, false, false, false, false, false, false, false, false, false] rfl rfl (by kernel_rfl) (panic_put (by decide)) (Or.inl ⟨by rfl, ?_⟩) ?_ ?_
              rotate_left
              · intro w'
                go_simp
                with_reducible rfl
              rotate_left
              · simp only [Act.put, List.setIfInBounds_toArray, List.set_cons_zero, List.set_cons_succ, i64_w, i32_w]
                rfl
              refine pure_ (i := 18) (N := some 129) (v := ?_) (a' := ?_) #[true, true, true, true, true, true, true, true, true, true, true, true, true, true, true, true, true, true, true, false, false, false, false, false, false, false, false, false, false, false, false, false, false, false, false, false, false, false, false, false, false, false, false, false, false, false, false, false, false, false, false, false] rfl rfl (by kernel_rfl) (panic_put (by decide)) (Or.inl ⟨by rfl, ?_⟩) ?_ ?_
              rotate_left
              · intro w'
                go_simp
                with_reducible rfl
              rotate_left
              · simp only [Act.put, List.setIfInBounds_toArray, List.set_cons_zero, List.set_cons_succ, i64_w, i32_w]
                rfl
              refine one_ (i := 19) (N := some 130) #[true, true, true, true, true, true, true, true, true, true, true, true, true, true, true, true, true, true, true, true, false, false, false, false, false, false, false, false, false, false, false, false, false, false, false, false, false, false, false, false, false, false, false, false, false, false, false, false, false, false, false, false] rfl rfl (by kernel_rfl) (by decide) (fun K hK => ?_)
              refine goes_ Try.func12 (by kernel_rfl) rfl #[.pointer none, .int .u32 1, .int .i64 1] (by rfl) rfl rfl (by first | rfl | (simp only [List.map_toArray, List.map_cons, List.map_nil]; rfl)) ?_
              with_reducible refine ((set_none _ 1 1)).mono ?_
              rintro e w7 ⟨rfl, q19, rfl⟩
              refine ⟨_, rfl, ?_⟩
              refine hK.out _ _ ⟨hHeld.1, hHeld.2.1, hHeld.2.2⟩ (fun hHeld => ?_)
              clear hK K
              refine norm_ (a' := ?_) ?_ ?_
              rotate_left
              · show Act.put _ (some 130) _ = _
                simp only [Act.put, List.setIfInBounds_toArray, List.set_cons_zero, List.set_cons_succ, i64_w, i32_w]
                rfl
              refine one_ (i := 20) (N := some 131) #[true, true, true, true, true, true, true, true, true, true, true, true, true, true, true, true, true, true, true, true, true, false, false, false, false, false, false, false, false, false, false, false, false, false, false, false, false, false, false, false, false, false, false, false, false, false, false, false, false, false, false, false] rfl rfl (by kernel_rfl) (by decide) (fun K hK => ?_)
              refine goes_ Try.func13 (by kernel_rfl) rfl #[.iface 38 (.int .i64 4), .int .i64 4] (by rfl) rfl rfl (by first | rfl | (simp only [List.map_toArray, List.map_cons, List.map_nil]; rfl)) ?_
              with_reducible refine ((is_no 4 rfl _)).mono ?_
              rintro e w7 ⟨rfl, rfl⟩
              refine ⟨_, rfl, ?_⟩
              refine hK.out _ _ ⟨hHeld.1, hHeld.2.1, hHeld.2.2⟩ (fun hHeld => ?_)
              clear hK K
              refine norm_ (a' := ?_) ?_ ?_
              rotate_left
              · show Act.put _ (some 131) _ = _
                simp only [Act.put, List.setIfInBounds_toArray, List.set_cons_zero, List.set_cons_succ, i64_w, i32_w]
                rfl
              refine pure_ (i := 21) (N := some 132) (v := ?_) (a' := ?_) #[true, true, true, true, true, true, true, true, true, true, true, true, true, true, true, true, true, true, true, true, true, true, false, false, false, false, false, false, false, false, false, false, false, false, false, false, false, false, false, false, false, false, false, false, false, false, false, false, false, false, false, false] rfl rfl (by kernel_rfl) (panic_put (by decide)) (Or.inl ⟨by rfl, ?_⟩) ?_ ?_
              rotate_left
              · intro w'
                go_simp
                with_reducible rfl
              rotate_left
              · simp only [Act.put, List.setIfInBounds_toArray, List.set_cons_zero, List.set_cons_succ, i64_w, i32_w]
                rfl
              refine pure_ (i := 22) (N := some 133) (v := ?_) (a' := ?_) #[true, true, true, true, true, true, true, true, true, true, true, true, true, true, true, true, true, true, true, true, true, true, true, false, false, false, false, false, false, false, false, false, false, false, false, false, false, false, false, false, false, false, false, false, false, false, false, false, false, false, false, false] rfl rfl (by kernel_rfl) (panic_put (by decide)) (Or.inl ⟨by rfl, ?_⟩) ?_ ?_
              rotate_left
              · intro w'
                go_simp
                with_reducible rfl
              rotate_left
              · simp only [Act.put, List.setIfInBounds_toArray, List.set_cons_zero, List.set_cons_succ, i64_w, i32_w]
                rfl
              refine pure_ (i := 23) (N := some 134) (v := ?_) (a' := ?_) #[true, true, true, true, true, true, true, true, true, true, true, true, true, true, true, true, true, true, true, true, true, true, true, true, false, false, false, false, false, false, false, false, false, false, false, false, false, false, false, false, false, false, false, false, false, false, false, false, false, false, false, false] rfl rfl (by kernel_rfl) (panic_put (by decide)) (Or.inl ⟨by rfl, ?_⟩) ?_ ?_
              rotate_left
              · intro w'
                go_simp
                with_reducible rfl
              rotate_left
              · simp only [Act.put, List.setIfInBounds_toArray, List.set_cons_zero, List.set_cons_succ, i64_w, i32_w]
                rfl
              refine pure_ (i := 24) (N := some 135) (v := ?_) (a' := ?_) #[true, true, true, true, true, true, true, true, true, true, true, true, true, true, true, true, true, true, true, true, true, true, true, true, true, false, false, false, false, false, false, false, false, false, false, false, false, false, false, false, false, false, false, false, false, false, false, false, false, false, false, false] rfl rfl (by kernel_rfl) (panic_put (by decide)) (Or.inl ⟨by rfl, ?_⟩) ?_ ?_
              rotate_left
              · intro w'
                go_simp
                with_reducible rfl
              rotate_left
              · simp only [Act.put, List.setIfInBounds_toArray, List.set_cons_zero, List.set_cons_succ, i64_w, i32_w]
                rfl
              refine pure_ (i := 25) (N := some 136) (v := ?_) (a' := ?_) #[true, true, true, true, true, true, true, true, true, true, true, true, true, true, true, true, true, true, true, true, true, true, true, true, true, true, false, false, false, false, false, false, false, false, false, false, false, false, false, false, false, false, false, false, false, false, false, false, false, false, false, false] rfl rfl (by kernel_rfl) (panic_put (by decide)) (Or.inl ⟨by rfl, ?_⟩) ?_ ?_
              rotate_left
              · intro w'
                go_simp
                with_reducible rfl
              rotate_left
              · simp only [Act.put, List.setIfInBounds_toArray, List.set_cons_zero, List.set_cons_succ, i64_w, i32_w]
                rfl
              refine pure_ (i := 26) (N := some 137) (v := ?_) (a' := ?_) #[true, true, true, true, true, true, true, true, true, true, true, true, true, true, true, true, true, true, true, true, true, true, true, true, true, true, true, false, false, false, false, false, false, false, false, false, false, false, false, false, false, false, false, false, false, false, false, false, false, false, false, false] rfl rfl (by kernel_rfl) (panic_put (by decide)) (Or.inl ⟨by rfl, ?_⟩) ?_ ?_
              rotate_left
              · intro w'
                go_simp
                with_reducible rfl
              rotate_left
              · simp only [Act.put, List.setIfInBounds_toArray, List.set_cons_zero, List.set_cons_succ, i64_w, i32_w]
                rfl
              refine pure_ (i := 27) (N := some 138) (v := ?_) (a' := ?_) #[true, true, true, true, true, true, true, true, true, true, true, true, true, true, true, true, true, true, true, true, true, true, true, true, true, true, true, true, false, false, false, false, false, false, false, false, false, false, false, false, false, false, false, false, false, false, false, false, false, false, false, false] rfl rfl (by kernel_rfl) (panic_put (by decide)) (Or.inl ⟨by rfl, ?_⟩) ?_ ?_
              rotate_left
              · intro w'
                go_simp
                with_reducible rfl
              rotate_left
              · simp only [Act.put, List.setIfInBounds_toArray, List.set_cons_zero, List.set_cons_succ, i64_w, i32_w]
                rfl
              refine one_ (i := 28) (N := some 139) #[true, true, true, true, true, true, true, true, true, true, true, true, true, true, true, true, true, true, true, true, true, true, true, true, true, true, true, true, true, false, false, false, false, false, false, false, false, false, false, false, false, false, false, false, false, false, false, false, false, false, false, false] rfl rfl (by kernel_rfl) (by decide) (fun K hK => ?_)
              refine goes_ Try.func16 (by kernel_rfl) rfl #[.pointer none] (by rfl) rfl rfl (by first | rfl | (simp only [List.map_toArray, List.map_cons, List.map_nil]; rfl)) ?_
              with_reducible refine ((from_none _)).mono ?_
              rintro e w7 ⟨rfl, q28, rfl⟩
              refine ⟨_, rfl, ?_⟩
              refine hK.out _ _ ⟨hHeld.1, hHeld.2.1, hHeld.2.2⟩ (fun hHeld => ?_)
              clear hK K
              refine norm_ (a' := ?_) ?_ ?_
              rotate_left
              · show Act.put _ (some 139) _ = _
                simp only [Act.put, List.setIfInBounds_toArray, List.set_cons_zero, List.set_cons_succ, i64_w, i32_w]
                rfl
              refine pure_ (i := 29) (N := some 140) (v := ?_) (a' := ?_) #[true, true, true, true, true, true, true, true, true, true, true, true, true, true, true, true, true, true, true, true, true, true, true, true, true, true, true, true, true, true, false, false, false, false, false, false, false, false, false, false, false, false, false, false, false, false, false, false, false, false, false, false] rfl rfl (by kernel_rfl) (panic_put (by decide)) (Or.inl ⟨by rfl, ?_⟩) ?_ ?_
              rotate_left
              · intro w'
                go_simp
                with_reducible rfl
              rotate_left
              · simp only [Act.put, List.setIfInBounds_toArray, List.set_cons_zero, List.set_cons_succ, i64_w, i32_w]
                rfl
              refine pure_ (i := 30) (N := some 141) (v := ?_) (a' := ?_) #[true, true, true, true, true, true, true, true, true, true, true, true, true, true, true, true, true, true, true, true, true, true, true, true, true, true, true, true, true, true, true, false, false, false, false, false, false, false, false, false, false, false, false, false, false, false, false, false, false, false, false, false] rfl rfl (by kernel_rfl) (panic_put (by decide)) (Or.inl ⟨by rfl, ?_⟩) ?_ ?_
              rotate_left
              · intro w'
                go_simp
                with_reducible rfl
              rotate_left
              · simp only [Act.put, List.setIfInBounds_toArray, List.set_cons_zero, List.set_cons_succ, i64_w, i32_w]
                rfl
              refine pure_ (i := 31) (N := some 142) (v := ?_) (a' := ?_) #[true, true, true, true, true, true, true, true, true, true, true, true, true, true, true, true, true, true, true, true, true, true, true, true, true, true, true, true, true, true, true, true, false, false, false, false, false, false, false, false, false, false, false, false, false, false, false, false, false, false, false, false] rfl rfl (by kernel_rfl) (panic_put (by decide)) (Or.inl ⟨by rfl, ?_⟩) ?_ ?_
              rotate_left
              · intro w'
                go_simp
                with_reducible rfl
              rotate_left
              · simp only [Act.put, List.setIfInBounds_toArray, List.set_cons_zero, List.set_cons_succ, i64_w, i32_w]
                rfl
              refine pure_ (i := 32) (N := some 143) (v := ?_) (a' := ?_) #[true, true, true, true, true, true, true, true, true, true, true, true, true, true, true, true, true, true, true, true, true, true, true, true, true, true, true, true, true, true, true, true, true, false, false, false, false, false, false, false, false, false, false, false, false, false, false, false, false, false, false, false] rfl rfl (by kernel_rfl) (panic_put (by decide)) (Or.inl ⟨by rfl, ?_⟩) ?_ ?_
              rotate_left
              · intro w'
                go_simp
                with_reducible rfl
              rotate_left
              · simp only [Act.put, List.setIfInBounds_toArray, List.set_cons_zero, List.set_cons_succ, i64_w, i32_w]
                rfl
              refine one_ (i := 33) (N := some 144) #[true, true, true, true, true, true, true, true, true, true, true, true, true, true, true, true, true, true, true, true, true, true, true, true, true, true, true, true, true, true, true, true, true, true, false, false, false, false, false, false, false, false, false, false, false, false, false, false, false, false, false, false] rfl rfl (by kernel_rfl) (by decide) (fun K hK => ?_)
              refine goes_ Try.func18 (by kernel_rfl) rfl #[.pointer none] (by rfl) rfl rfl (by first | rfl | (simp only [List.map_toArray, List.map_cons, List.map_nil]; rfl)) ?_
              with_reducible refine ((next_none _)).mono ?_
              rintro e w7 ⟨rfl, q33, rfl⟩
              refine ⟨_, rfl, ?_⟩
              refine hK.out _ _ ⟨hHeld.1, hHeld.2.1, hHeld.2.2⟩ (fun hHeld => ?_)
              clear hK K
              refine norm_ (a' := ?_) ?_ ?_
              rotate_left
              · show Act.put _ (some 144) _ = _
                simp only [Act.put, List.setIfInBounds_toArray, List.set_cons_zero, List.set_cons_succ, i64_w, i32_w]
                rfl
              refine pure_ (i := 34) (N := some 145) (v := ?_) (a' := ?_) #[true, true, true, true, true, true, true, true, true, true, true, true, true, true, true, true, true, true, true, true, true, true, true, true, true, true, true, true, true, true, true, true, true, true, true, false, false, false, false, false, false, false, false, false, false, false, false, false, false, false, false, false] rfl rfl (by kernel_rfl) (panic_put (by decide)) (Or.inl ⟨by rfl, ?_⟩) ?_ ?_
              rotate_left
              · intro w'
                go_simp
                with_reducible rfl
              rotate_left
              · simp only [Act.put, List.setIfInBounds_toArray, List.set_cons_zero, List.set_cons_succ, i64_w, i32_w]
                rfl
              refine pure_ (i := 35) (N := some 146) (v := ?_) (a' := ?_) #[true, true, true, true, true, true, true, true, true, true, true, true, true, true, true, true, true, true, true, true, true, true, true, true, true, true, true, true, true, true, true, true, true, true, true, true, false, false, false, false, false, false, false, false, false, false, false, false, false, false, false, false] rfl rfl (by kernel_rfl) (panic_put (by decide)) (Or.inl ⟨by rfl, ?_⟩) ?_ ?_
              rotate_left
              · intro w'
                go_simp
                with_reducible rfl
              rotate_left
              · simp only [Act.put, List.setIfInBounds_toArray, List.set_cons_zero, List.set_cons_succ, i64_w, i32_w]
                rfl
              refine pure_ (i := 36) (N := some 147) (v := ?_) (a' := ?_) #[true, true, true, true, true, true, true, true, true, true, true, true, true, true, true, true, true, true, true, true, true, true, true, true, true, true, true, true, true, true, true, true, true, true, true, true, true, false, false, false, false, false, false, false, false, false, false, false, false, false, false, false] rfl rfl (by kernel_rfl) (panic_put (by decide)) (Or.inl ⟨by rfl, ?_⟩) ?_ ?_
              rotate_left
              · intro w'
                go_simp
                with_reducible rfl
              rotate_left
              · simp only [Act.put, List.setIfInBounds_toArray, List.set_cons_zero, List.set_cons_succ, i64_w, i32_w]
                rfl
              refine pure_ (i := 37) (N := some 148) (v := ?_) (a' := ?_) #[true, true, true, true, true, true, true, true, true, true, true, true, true, true, true, true, true, true, true, true, true, true, true, true, true, true, true, true, true, true, true, true, true, true, true, true, true, true, false, false, false, false, false, false, false, false, false, false, false, false, false, false] rfl rfl (by kernel_rfl) (panic_put (by decide)) (Or.inl ⟨by rfl, ?_⟩) ?_ ?_
              rotate_left
              · intro w'
                go_simp
                with_reducible rfl
              rotate_left
              · simp only [Act.put, List.setIfInBounds_toArray, List.set_cons_zero, List.set_cons_succ, i64_w, i32_w]
                rfl
              refine one_ (i := 38) (N := some 149) #[true, true, true, true, true, true, true, true, true, true, true, true, true, true, true, true, true, true, true, true, true, true, true, true, true, true, true, true, true, true, true, true, true, true, true, true, true, true, true, false, false, false, false, false, false, false, false, false, false, false, false, false] rfl rfl (by kernel_rfl) (by decide) (fun K hK => ?_)
              refine goes_ Try.func11 (by kernel_rfl) rfl #[.pointer none] (by rfl) rfl rfl (by first | rfl | (simp only [List.map_toArray, List.map_cons, List.map_nil]; rfl)) ?_
              with_reducible refine ((len_none _)).mono ?_
              rintro e w7 ⟨rfl, q38, rfl⟩
              refine ⟨_, rfl, ?_⟩
              refine hK.out _ _ ⟨hHeld.1, hHeld.2.1, hHeld.2.2⟩ (fun hHeld => ?_)
              clear hK K
              refine norm_ (a' := ?_) ?_ ?_
              rotate_left
              · show Act.put _ (some 149) _ = _
                simp only [Act.put, List.setIfInBounds_toArray, List.set_cons_zero, List.set_cons_succ, i64_w, i32_w]
                rfl
              refine pure_ (i := 39) (N := some 150) (v := ?_) (a' := ?_) #[true, true, true, true, true, true, true, true, true, true, true, true, true, true, true, true, true, true, true, true, true, true, true, true, true, true, true, true, true, true, true, true, true, true, true, true, true, true, true, true, false, false, false, false, false, false, false, false, false, false, false, false] rfl rfl (by kernel_rfl) (panic_put (by decide)) (Or.inl ⟨by rfl, ?_⟩) ?_ ?_
              rotate_left
              · intro w'
                go_simp
                with_reducible rfl
              rotate_left
              · simp only [Act.put, List.setIfInBounds_toArray, List.set_cons_zero, List.set_cons_succ, i64_w, i32_w]
                rfl
              refine pure_ (i := 40) (N := some 151) (v := ?_) (a' := ?_) #[true, true, true, true, true, true, true, true, true, true, true, true, true, true, true, true, true, true, true, true, true, true, true, true, true, true, true, true, true, true, true, true, true, true, true, true, true, true, true, true, true, false, false, false, false, false, false, false, false, false, false, false] rfl rfl (by kernel_rfl) (panic_put (by decide)) (Or.inl ⟨by rfl, ?_⟩) ?_ ?_
              rotate_left
              · intro w'
                go_simp
                with_reducible rfl
              rotate_left
              · simp only [Act.put, List.setIfInBounds_toArray, List.set_cons_zero, List.set_cons_succ, i64_w, i32_w]
                rfl
              refine pure_ (i := 41) (N := some 152) (v := ?_) (a' := ?_) #[true, true, true, true, true, true, true, true, true, true, true, true, true, true, true, true, true, true, true, true, true, true, true, true, true, true, true, true, true, true, true, true, true, true, true, true, true, true, true, true, true, true, false, false, false, false, false, false, false, false, false, false] rfl rfl (by kernel_rfl) (panic_put (by decide)) (Or.inl ⟨by rfl, ?_⟩) ?_ ?_
              rotate_left
              · intro w'
                go_simp
                with_reducible rfl
              rotate_left
              · simp only [Act.put, List.setIfInBounds_toArray, List.set_cons_zero, List.set_cons_succ, i64_w, i32_w]
                rfl
              refine pure_ (i := 42) (N := some 153) (v := ?_) (a' := ?_) #[true, true, true, true, true, true, true, true, true, true, true, true, true, true, true, true, true, true, true, true, true, true, true, true, true, true, true, true, true, true, true, true, true, true, true, true, true, true, true, true, true, true, true, false, false, false, false, false, false, false, false, false] rfl rfl (by kernel_rfl) (panic_put (by decide)) (Or.inl ⟨by rfl, ?_⟩) ?_ ?_
              rotate_left
              · intro w'
                go_simp
                with_reducible rfl
              rotate_left
              · simp only [Act.put, List.setIfInBounds_toArray, List.set_cons_zero, List.set_cons_succ, i64_w, i32_w]
                rfl
              refine one_ (i := 43) (N := some 154) #[true, true, true, true, true, true, true, true, true, true, true, true, true, true, true, true, true, true, true, true, true, true, true, true, true, true, true, true, true, true, true, true, true, true, true, true, true, true, true, true, true, true, true, true, false, false, false, false, false, false, false, false] rfl rfl (by kernel_rfl) (by decide) (fun K hK => ?_)
              refine goes_ Try.func25 (by kernel_rfl) rfl #[.pointer none] (by rfl) rfl rfl (by first | rfl | (simp only [List.map_toArray, List.map_cons, List.map_nil]; rfl)) ?_
              with_reducible refine ((free_none _)).mono ?_
              rintro e w7 ⟨rfl, q43, rfl⟩
              refine ⟨_, rfl, ?_⟩
              refine hK.out _ _ ⟨hHeld.1, hHeld.2.1, hHeld.2.2⟩ (fun hHeld => ?_)
              clear hK K
              refine norm_ (a' := ?_) ?_ ?_
              rotate_left
              · show Act.put _ (some 154) _ = _
                simp only [Act.put, List.setIfInBounds_toArray, List.set_cons_zero, List.set_cons_succ, i64_w, i32_w]
                rfl
              refine pure_ (i := 44) (N := some 155) (v := ?_) (a' := ?_) #[true, true, true, true, true, true, true, true, true, true, true, true, true, true, true, true, true, true, true, true, true, true, true, true, true, true, true, true, true, true, true, true, true, true, true, true, true, true, true, true, true, true, true, true, true, false, false, false, false, false, false, false] rfl rfl (by kernel_rfl) (panic_put (by decide)) (Or.inl ⟨by rfl, ?_⟩) ?_ ?_
              rotate_left
              · intro w'
                go_simp
                with_reducible rfl
              rotate_left
              · simp only [Act.put, List.setIfInBounds_toArray, List.set_cons_zero, List.set_cons_succ, i64_w, i32_w]
                rfl
              refine pure_ (i := 45) (N := some 156) (v := ?_) (a' := ?_) #[true, true, true, true, true, true, true, true, true, true, true, true, true, true, true, true, true, true, true, true, true, true, true, true, true, true, true, true, true, true, true, true, true, true, true, true, true, true, true, true, true, true, true, true, true, true, false, false, false, false, false, false] rfl rfl (by kernel_rfl) (panic_put (by decide)) (Or.inl ⟨by rfl, ?_⟩) ?_ ?_
              rotate_left
              · intro w'
                go_simp
                with_reducible rfl
              rotate_left
              · simp only [Act.put, List.setIfInBounds_toArray, List.set_cons_zero, List.set_cons_succ, i64_w, i32_w]
                rfl
              refine pure_ (i := 46) (N := some 157) (v := ?_) (a' := ?_) #[true, true, true, true, true, true, true, true, true, true, true, true, true, true, true, true, true, true, true, true, true, true, true, true, true, true, true, true, true, true, true, true, true, true, true, true, true, true, true, true, true, true, true, true, true, true, true, false, false, false, false, false] rfl rfl (by kernel_rfl) (panic_put (by decide)) (Or.inl ⟨by rfl, ?_⟩) ?_ ?_
              rotate_left
              · intro w'
                go_simp
                with_reducible rfl
              rotate_left
              · simp only [Act.put, List.setIfInBounds_toArray, List.set_cons_zero, List.set_cons_succ, i64_w, i32_w]
                rfl
              refine pure_ (i := 47) (N := some 158) (v := ?_) (a' := ?_) #[true, true, true, true, true, true, true, true, true, true, true, true, true, true, true, true, true, true, true, true, true, true, true, true, true, true, true, true, true, true, true, true, true, true, true, true, true, true, true, true, true, true, true, true, true, true, true, true, false, false, false, false] rfl rfl (by kernel_rfl) (panic_put (by decide)) (Or.inl ⟨by rfl, ?_⟩) ?_ ?_
              rotate_left
              · intro w'
                go_simp
                with_reducible rfl
              rotate_left
              · simp only [Act.put, List.setIfInBounds_toArray, List.set_cons_zero, List.set_cons_succ, i64_w, i32_w]
                rfl
              refine one_ (i := 48) (N := some 159) #[true, true, true, true, true, true, true, true, true, true, true, true, true, true, true, true, true, true, true, true, true, true, true, true, true, true, true, true, true, true, true, true, true, true, true, true, true, true, true, true, true, true, true, true, true, true, true, true, true, false, false, false] rfl rfl (by kernel_rfl) (by decide) (fun K hK => ?_)
              refine goes_ Try.func22 (by kernel_rfl) rfl #[.pointer none] (by rfl) rfl rfl (by first | rfl | (simp only [List.map_toArray, List.map_cons, List.map_nil]; rfl)) ?_
              with_reducible refine ((copy_none _)).mono ?_
              rintro e w7 ⟨rfl, q48, rfl⟩
              refine ⟨_, rfl, ?_⟩
              refine hK.out _ _ ⟨hHeld.1, hHeld.2.1, hHeld.2.2⟩ (fun hHeld => ?_)
              clear hK K
              refine norm_ (a' := ?_) ?_ ?_
              rotate_left
              · show Act.put _ (some 159) _ = _
                simp only [Act.put, List.setIfInBounds_toArray, List.set_cons_zero, List.set_cons_succ, i64_w, i32_w]
                rfl
              refine pure_ (i := 49) (N := some 160) (v := ?_) (a' := ?_) #[true, true, true, true, true, true, true, true, true, true, true, true, true, true, true, true, true, true, true, true, true, true, true, true, true, true, true, true, true, true, true, true, true, true, true, true, true, true, true, true, true, true, true, true, true, true, true, true, true, true, false, false] rfl rfl (by kernel_rfl) (panic_put (by decide)) (Or.inl ⟨by rfl, ?_⟩) ?_ ?_
              rotate_left
              · intro w'
                go_simp
                with_reducible rfl
              rotate_left
              · simp only [Act.put, List.setIfInBounds_toArray, List.set_cons_zero, List.set_cons_succ, i64_w, i32_w]
                rfl
              refine pure_ (i := 50) (N := some 161) (v := ?_) (a' := ?_) #[true, true, true, true, true, true, true, true, true, true, true, true, true, true, true, true, true, true, true, true, true, true, true, true, true, true, true, true, true, true, true, true, true, true, true, true, true, true, true, true, true, true, true, true, true, true, true, true, true, true, true, false] rfl rfl (by kernel_rfl) (panic_put (by decide)) (Or.inl ⟨by rfl, ?_⟩) ?_ ?_
              rotate_left
              · intro w'
                go_simp
                with_reducible rfl
              rotate_left
              · simp only [Act.put, List.setIfInBounds_toArray, List.set_cons_zero, List.set_cons_succ, i64_w, i32_w]
                rfl
              refine last_ (i := 51) (N := none) #[true, true, true, true, true, true, true, true, true, true, true, true, true, true, true, true, true, true, true, true, true, true, true, true, true, true, true, true, true, true, true, true, true, true, true, true, true, true, true, true, true, true, true, true, true, true, true, true, true, true, true, true] rfl rfl (by kernel_rfl) (by decide) (fun K hK => ?_)
              refine skip_ (w1 := ?_) (by rfl) rfl ?_ ?_
              rotate_left
              · go_simp
                rfl
              refine hK.out _ _ ?_
              clear hK K
              refine done_ (by kernel_rfl) ?_
              go_wp2_with fail
              refine out_two ?_ ?_ ?_ HE.out.1 HE.out.2.1 HE.out.2.2.1 HGW.out HE.out.2.2.2.1 HE.out.2.2.2.2 ?_ _ rfl
              · exact HGE.out
              · exact HKE.out.2.1
              · exact HKE.out.2.2
              · exact pw_below_drewN HWE.out _
end Go.Proofs.Ythflkloghbhhgaa.Rw
/- Opn -/
namespace Go.Proofs.Ythflkloghbhhgaa.Opn
open Go.RowKit Go.Deep Go.WideShapes Go.ChangeShapes Go.Proofs.YthflkloghbhhgaaW.PrintWords
set_option linter.unusedVariables false
/-- What reads at type T is told by the kind d, and fits wf. -/
def Opn (P : Program) (w : World) (T : TypeId) {α : Type} (d : Kd α) (wf : α → Prop) : Prop :=
  ∀ {H : Type} {enc : TypeId × Value → H} {base : Nat} {spare : Nat → Bool} {held : Bool} {fuel : Nat} {cs : List Value} {y : DataW H × List MemPlace},
    DataW.trod enc P w base spare held fuel T cs = some y → ∃ x, d.K w x cs ∧ wf x

section
variable {P : Program} {w : World} {T e : TypeId} {α β : Type}
theorem int {k : IntKind} (hu : P.underlying T = some (.int k)) : Opn P w T (Kd.int k) (fun x => (Lit.int k x).wf = true) := by
  intro H enc base spare held fuel cs y h
  obtain ⟨n, rfl, _, wn⟩ := DataW.trod_int hu h
  exact ⟨n, rfl, wn⟩
theorem bool (hu : P.underlying T = some .bool) : Opn P w T Kd.bool (fun _ => True) := by
  intro H enc base spare held fuel cs y h
  obtain ⟨n, rfl, _⟩ := DataW.trod_bool hu h
  exact ⟨n, rfl, trivial⟩
theorem string (hu : P.underlying T = some .string) : Opn P w T Kd.string (fun s => s.size ≤ maxLen) := by
  intro H enc base spare held fuel cs y h
  obtain ⟨n, rfl, _, hs⟩ := DataW.trod_string hu h
  exact ⟨n, rfl, hs⟩

theorem list_of {p : Nat → α → Prop} : ∀ (n : Nat), (∀ i, i < n → ∃ x, p i x) → ∃ xs : List α, xs.length = n ∧ ∀ i x, xs[i]? = some x → p i x
  | 0, _ => ⟨[], rfl, fun i x h => by simp at h⟩
  | n + 1, h => by
    obtain ⟨xs, hl, hp⟩ := list_of n (fun i hi => h i (by omega))
    obtain ⟨x, hx⟩ := h n (by omega)
    refine ⟨xs ++ [x], by simp [hl], fun i y hy => ?_⟩
    by_cases hi : i < xs.length
    · rw [List.getElem?_append_left hi] at hy; exact hp i y hy
    · rw [List.getElem?_append_right (by omega)] at hy
      have h0 : i - xs.length = 0 := by
        rcases Nat.eq_zero_or_pos (i - xs.length) with h' | h'
        · exact h'
        · rw [List.getElem?_eq_none (by simp; omega)] at hy; cases hy
      rw [h0] at hy
      simp at hy
      subst hy
      obtain rfl : i = n := by omega
      exact hx

theorem slice {q : Nat} {d : Kd α} {wf : α → Prop} (hu : P.underlying T = some (.slice e)) (hs : P.cellsOf e = d.sz) (he : Opn P w e d wf) :
    Opn P w T (Kd.slice q d) (fun xs => ∀ x ∈ xs, wf x) := by
  intro H enc base spare held fuel cs y h
  rcases open_slice hu h with ⟨rfl, rfl⟩ | ⟨a, len, cap, m, n, D, Pl, rfl, hb, hl, hm, hmm, rfl, hx⟩
  · exact ⟨[], ⟨none, 0, rfl, Nat.le_refl _, rfl, by simp, fun h => absurd h (Nat.lt_irrefl 0)⟩, by simp⟩
  · have hlm : len ≤ m := by rw [hmm]; split <;> omega
    obtain ⟨xs, hlen, hp⟩ := list_of (p := fun i x => (∃ cs', w.cells? base (a.add (i * P.cellsOf e)) (P.cellsOf e) = some cs' ∧ d.K w x cs') ∧ wf x) len (fun i hi => by
      obtain ⟨cs', h1, h2⟩ := hx i (by omega)
      obtain ⟨x, hk, hw⟩ := he h2
      exact ⟨x, ⟨cs', h1, hk⟩, hw⟩)
    refine ⟨xs, ⟨some a, cap, by rw [hlen], by omega, rfl, by unfold maxLen at hm; omega, fun _ => ⟨a, rfl, fun j x hj => ?_⟩⟩, fun x hx' => ?_⟩
    · obtain ⟨⟨cs', h1, hk⟩, _⟩ := hp j x hj
      refine ⟨cs', d.K_len hk, hk, fun i u hu' => ?_⟩
      obtain ⟨_, hl2, hc⟩ := World.cells?_some h1
      have hi : i < cs'.length := by
        rcases Nat.lt_or_ge i cs'.length with h' | h'
        · exact h'
        · rw [List.getElem?_eq_none h'] at hu'; cases hu'
      have := hc i (by omega)
      rw [Deep.add_add, hs] at this
      rw [this]; exact hu'
    · obtain ⟨i, hi⟩ := List.getElem?_of_mem hx'
      exact (hp i x hi).2

/-- A part of cells. -/
def At (w : World) (d : Kd α) (wf : α → Prop) (cs : List Value) : Prop := ∃ x, d.K w x cs ∧ wf x
theorem at_field {d : Kd α} {wf : α → Prop} {H : Type} {enc : TypeId × Value → H} {base : Nat} {spare : Nat → Bool} {held : Bool} {n i o s : Nat} {f : Field} {cs : List Value} {xs : List (DataW H × List MemPlace)}
    (h : DataW.trod enc P w base spare held n f.type ((cs.drop f.offset).take (P.cellsOf f.type)) = xs[i]?) (ho : f.offset = o) (ht : f.type = T) (hs : P.cellsOf T = s) (hi : i < xs.length) (he : Opn P w T d wf) : At w d wf ((cs.drop o).take s) := by
  subst ho; subst ht; subst hs
  rw [List.getElem?_eq_getElem hi] at h
  exact he h
theorem at_pair {a : Kd α} {b : Kd β} {wa : α → Prop} {wb : β → Prop} {cs : List Value} {o s t : Nat} (ha : At w a wa ((cs.drop o).take s)) (hb : At w b wb ((cs.drop (o + s)).take t)) :
    At w (Kd.pair a b) (fun x => wa x.1 ∧ wb x.2) ((cs.drop o).take (s + t)) := by
  obtain ⟨x, hx, w1⟩ := ha
  obtain ⟨y, hy, w2⟩ := hb
  refine ⟨(x, y), ⟨_, _, ?_, hx, hy⟩, w1, w2⟩
  rw [List.take_add, List.drop_drop]
theorem of_at {d : Kd α} {wf : α → Prop} {cs : List Value} {n : Nat} (h : At w d wf ((cs.drop 0).take n)) (hl : cs.length = n) : ∃ x, d.K w x cs ∧ wf x := by
  rw [List.drop_zero, List.take_of_length_le (by omega)] at h
  exact h
end
end Go.Proofs.Ythflkloghbhhgaa.Opn
/- RowRowCopies -/
namespace Go.Proofs.Ythflkloghbhhgaa.rowCopies
open Go.ChangeShapes Go.WideShapes Go.ChangeAt Go.RowKit Go.Proofs.YthflkloghbhhgaaW.PrintWords
open Go.ChangeMaps (open_string shut_string)
set_option linter.unusedVariables false
theorem own : ownKnob Try.prog.godebug = none := by kernel_rfl
theorem laidOut : laidOutB Try.prog = true := by kernel_rfl
theorem cells3 : Try.prog.cellsOf 3 = 1 := by kernel_rfl
theorem cells22 : Try.prog.cellsOf 22 = 1 := by kernel_rfl
theorem opn24 {W : World} : Opn.Opn Try.prog W 24 (Kd.pair (Kd.int .u32) (Kd.int .i64)) (fun x => ((Lit.int .u32 x.1).wf = true ∧ (Lit.int .i64 x.2).wf = true)) := by
  intro H enc base spare held fuel cs y h
  obtain ⟨xs, n, _, rfl, hl, hlen, hf⟩ := DataW.trod_struct Try.underlying24 h
  have g0 : Opn.At W (Kd.int .u32) (fun x => (Lit.int .u32 x).wf = true) ((cs.drop 0).take 1) := Opn.at_field (hf 0 _ rfl) rfl rfl cells22 (by rw [hlen]; decide) (Opn.int Try.underlying22)
  have g1 : Opn.At W (Kd.int .i64) (fun x => (Lit.int .i64 x).wf = true) ((cs.drop 1).take 1) := Opn.at_field (hf 1 _ rfl) rfl rfl cells3 (by rw [hlen]; decide) (Opn.int Try.underlying3)
  obtain ⟨x, hk, hw⟩ := Opn.of_at (Opn.at_pair g0 g1) (hl.trans (by kernel_rfl))
  exact ⟨x, hk, hw⟩
theorem opn72 {W : World} : Opn.Opn Try.prog W 72 (Kd.pair (Kd.int .i64) (Kd.pair (Kd.int .u32) (Kd.int .i64))) (fun x => ((Lit.int .i64 x.1).wf = true ∧ (Lit.int .u32 x.2.1).wf = true ∧ (Lit.int .i64 x.2.2).wf = true)) := by
  intro H enc base spare held fuel cs y h
  obtain ⟨xs, n, _, rfl, hl, hlen, hf⟩ := DataW.trod_struct Try.underlying72 h
  have g0 : Opn.At W (Kd.int .i64) (fun x => (Lit.int .i64 x).wf = true) ((cs.drop 0).take 1) := Opn.at_field (hf 0 _ rfl) rfl rfl cells3 (by rw [hlen]; decide) (Opn.int Try.underlying3)
  have g1 : Opn.At W (Kd.int .u32) (fun x => (Lit.int .u32 x).wf = true) ((cs.drop 1).take 1) := Opn.at_field (hf 1 _ rfl) rfl rfl cells22 (by rw [hlen]; decide) (Opn.int Try.underlying22)
  have g2 : Opn.At W (Kd.int .i64) (fun x => (Lit.int .i64 x).wf = true) ((cs.drop 2).take 1) := Opn.at_field (hf 2 _ rfl) rfl rfl cells3 (by rw [hlen]; decide) (Opn.int Try.underlying3)
  obtain ⟨x, hk, hw⟩ := Opn.of_at (Opn.at_pair g0 (Opn.at_pair g1 g2)) (hl.trans (by kernel_rfl))
  exact ⟨x, hk, hw⟩
theorem opn48 {W : World} : Opn.Opn Try.prog W 48 (Kd.slice 72 (Kd.pair (Kd.int .i64) (Kd.pair (Kd.int .u32) (Kd.int .i64)))) (fun x => (∀ zx ∈ x, ((Lit.int .i64 zx.1).wf = true ∧ (Lit.int .u32 zx.2.1).wf = true ∧ (Lit.int .i64 zx.2.2).wf = true))) := Opn.slice Try.underlying48 (by kernel_rfl) opn72
set_option maxRecDepth 100000 in
theorem lifted (os : Os) (started : os.Started) (H : Type) (enc : TypeId × Value → H) :
    ReturnsInHanded {} Try.checked os 7 .any (Rows.rowCopiesSpec.pre6 enc Try.prog Try.f7 Rows.rowCopiesRow.domain false) (Rows.rowCopiesSpec.post enc Try.prog Try.f7 false true false false) := by
  refine returnsInHanded_of_change_sized (C := Try.checked) own started (by kernel_rfl) Try.func7
    (ChangeSpec.witness6 (enc := enc) (C := Try.checked) false ⟨#[], #[.agg #[.int .u32 0, .int .i64 0], .slice none 0 0, .slice none 0 0], []⟩ 8 (by kernel_rfl) (by kernel_rfl) (by kernel_rfl) (by kernel_rfl)) ?_
  intro W base args ds gs before hval0 hW hcnd hsz0 _
  have hval : ∀ (j : Nat) t v, Try.f7.params[j]? = some t → args[j]? = some v → Value.okWide Try.prog W .any base t v := hval0
  have hW' := hW
  obtain ⟨p, q, hA0, hV, rfl, hfz, hnd⟩ := hW
  have hA : DataW.TrodAll enc Try.prog W 0 (fun _ => true) true Try.f7.params.toList args.toList ds p := hA0
  rw [Try.params7] at hA hval
  obtain ⟨v0, vs0, d0, ds0, p0, q0, hargs, rfl, rfl, h0, r0⟩ := trodAll_cons hA
  obtain ⟨v1, vs1, d1, ds1, p1, q1, rfl, rfl, rfl, h1, r1⟩ := trodAll_cons r0
  obtain ⟨v2, vs2, d2, ds2, p2, q2, rfl, rfl, rfl, h2, r2⟩ := trodAll_cons r1
  obtain ⟨rfl, rfl, rfl⟩ := trodAll_nil r2
  obtain rfl : args = #[v0, v1, v2] := by cases args; simp_all
  obtain ⟨rfl, rfl⟩ := trodVars_none hV
  have kk0 := h0
  have lt0 : ∀ x ∈ p0, x.block < W.heap.size := by obtain ⟨m, hm⟩ := kk0; exact DataW.trod_lt m _ _ _ hm
  obtain ⟨fu0, hf0⟩ := h0
  obtain ⟨cs0, rfl, _⟩ := okWide_struct Try.underlying24 (hval 0 24 v0 rfl rfl)
  obtain ⟨xx0, hk0, ww0⟩ := opn24 hf0
  obtain ⟨a0_0, a0_1⟩ := xx0
  obtain ⟨z0, hz0⟩ : ∃ z, z = (Value.agg cs0).cells.toList := ⟨_, rfl⟩
  rw [← hz0] at hk0
  obtain ⟨_, _, rfl, rfl, rfl⟩ := hk0
  simp only [Value.cells, List.cons_append, List.nil_append] at hz0
  obtain rfl : cs0 = #[.int .u32 a0_0, .int .i64 a0_1] := by rw [← Array.toArray_toList (xs := cs0), ← hz0]
  obtain ⟨w0_0, w0_1⟩ := ww0
  have kk1 := h1
  have lt1 : ∀ x ∈ p1, x.block < W.heap.size := by obtain ⟨m, hm⟩ := kk1; exact DataW.trod_lt m _ _ _ hm
  obtain ⟨a1, len1, cap1, rfl⟩ := okWide_slice Try.underlying48 (hval 1 48 v1 rfl rfl)
  obtain ⟨fu1, hf1⟩ := h1
  obtain ⟨l1, ⟨A1, c1, he1, hc1, hr1⟩, w1⟩ := opn48 hf1
  simp only [Value.cells, List.cons.injEq, and_true, Value.slice.injEq] at he1
  obtain ⟨rfl, rfl, rfl⟩ := he1
  have kk2 := h2
  have lt2 : ∀ x ∈ p2, x.block < W.heap.size := by obtain ⟨m, hm⟩ := kk2; exact DataW.trod_lt m _ _ _ hm
  obtain ⟨a2, len2, cap2, rfl⟩ := okWide_slice Try.underlying48 (hval 2 48 v2 rfl rfl)
  obtain ⟨fu2, hf2⟩ := h2
  obtain ⟨l2, ⟨A2, c2, he2, hc2, hr2⟩, w2⟩ := opn48 hf2
  simp only [Value.cells, List.cons.injEq, and_true, Value.slice.injEq] at he2
  obtain ⟨rfl, rfl, rfl⟩ := he2
  clear hA0 hval0 hsz0
  refine (Rw.rowCopies_walk W _ _ _ _ l1 _ _ l2 w0_0 w0_1 hc1 hr1 w1 hc2 hr2 w2).mono fun e W' ⟨he, bel⟩ => ?_
  subst he
  exact ⟨_, rfl, _, _, _, [], _, [], hW', trodAll_mk1 (shut_bool Try.underlying4 _), (trodAll_cons_mk (Below.trod laidOut (by kernel_rfl) (of_decide_eq_true (by kernel_rfl)) kk0 bel lt0) (trodAll_cons_mk (Below.trod laidOut (by kernel_rfl) (of_decide_eq_true (by kernel_rfl)) kk1 bel lt1) (trodAll_cons_mk (Below.trod laidOut (by kernel_rfl) (of_decide_eq_true (by kernel_rfl)) kk2 bel lt2) trodAll_mk0))), rfl, bel.frame _, fun h => by cases h⟩
theorem over : Rows.rowCopiesRow.holds Try.pinned (OpenSpec.ofChange Rows.rowCopiesSpec) :=
  OpenClaim.holds_of_wide 7 Try.f7 rfl rfl rfl rfl rfl rfl rfl ⟨rfl, rfl, rfl, rfl, rfl⟩ rfl rfl rfl rfl rfl (by kernel_rfl) Try.func7 (by kernel_rfl)
    (of_decide_eq_true (by kernel_rfl)) (by unfold Func.isWrapper; first | (rw [if_pos (by decide +kernel)]; kernel_rfl) | (rw [if_neg (by decide +kernel)]; exact ⟨rfl, rfl⟩))
    (fun os started H enc _ => lifted os started H enc)
end Go.Proofs.Ythflkloghbhhgaa.rowCopies
namespace Go.Proofs.Ythflkloghbhhgaa
/-- The row, under a short name, for the claim. -/
theorem rowCopies_holds : Rows.RowCopiesSaid := rowCopies.over
#print axioms rowCopies_holds
end Go.Proofs.Ythflkloghbhhgaa
