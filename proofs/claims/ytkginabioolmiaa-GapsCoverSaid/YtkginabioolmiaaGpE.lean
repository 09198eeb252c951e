import Derived.Test.YtkginabioolmiaaGpD
/- A tracker: New, Cum, Dups, Clear, Holes; slices.Clone of words. (Printed in part by tools/genGpE.py.) -/
namespace Go.Proofs.Ytkginabioolmiaa.Gp
open Go.RowKit Go.Shelf Go.Proofs.YtkginabioolmiaaW.PrintWords Go.Proofs.YtkginabioolmiaaW.PrintLast Go.Proofs.YtkginabioolmiaaW.PrintMore Go.Proofs.Ytkginabioolmiaa.Sh
set_option linter.unusedVariables false
set_option linter.unusedSimpArgs false
set_option maxRecDepth 100000 in
theorem clone49 (w : World) (A : Option Addr) (c : Nat) (l : List Int) (hc : l.length ≤ c) (hC : Kd.C (Kd.int .u32) w A l.length l) (hl : l.length ≤ 1048576) :
    Calls Try.prog 49 #[.slice A l.length c] w fun e w' => ∃ A c, e = .returned (.slice A l.length c) ∧ Kd.R (Kd.int .u32) 22 w' w.heap.size (fun _ => True) (.slice A l.length c) l ∧ Below w.heap.size w w' := by
  cases A with
  | none =>
    have hl : l = [] := by
      rcases Nat.eq_zero_or_pos l.length with h | h
      · exact List.length_eq_zero_iff.1 h
      · obtain ⟨ad, he, _⟩ := hC.2.2 h
        cases he
    subst hl
    have hnil := fun W : World => Lib.run_eql_slice_nil (P := Try.prog) W 35 22 none ([] : List Int).length c 0 0 Try.underlying35
    simp only [Option.isNone_none, List.length_nil] at hnil
    clear hC
    go_enter Try.func49, Try.ntmps49
    go_wp2_with fail
    go_ret
    exact ⟨none, 0, rfl, Kd.R_nil _ _ _ _ _, Below.refl _ _⟩
  | some ad =>
    have HC := Aside0.mk hC
    have HB0 := Aside0.mk (Below.refl w.heap.size w)
    have HL := Aside0.mk (show (([] : List Int).length + l.length) * 4 ≤ 140737488355328 by simp; omega)
    have hnil := fun W : World => Lib.run_eql_slice_nil (P := Try.prog) W 35 22 (some ad) l.length c 0 0 Try.underlying35
    simp only [Option.isNone_some] at hnil
    clear hC
    go_enter Try.func49, Try.ntmps49
    go_wp2_with (first | ((with_reducible refine gate_dst (N := 5) rfl ?_); refine Kd.R_lit (Kd.int .u32) (w0 := w) w.heap.size 22 ?hg (N := 5) ?hd (xs := ([] : List Int)) (inner := []) (ok := fun _ => True) (okp := fun _ => True) ?hr ?hp (fun _ hk => hk) trivial HB0.out HB0.out.size (by simp) ?_; (case hd => rfl); (case hg => rfl); (case hr => first | (go_simp; done) | (go_simp; rfl)); (case hp => exact (Reps.none _ _)); intro v1 w2 ho hb hg hn; have HO2 := Aside0.mk ho; have HB2 := Aside0.mk hb; clear ho hb hg hn; obtain ⟨A2, c2, rfl⟩ := Kd.R_slice HO2.out) | (at_builtin; refine Kd.R_append_rows (Kd.int .u32) (w0 := w) w.heap.size rfl (.tmp 5) (.tmp 6) 35 22 (.int .u32 0) 4 rfl Try.underlying35 info22 rfl (by decide) (by omega) (.slice A2 ([] : List Int).length c2) [] l _ _ _ (fun _ => True) (fun _ => False) rfl rfl ?aO ?aR (fun _ _ h => h) (fun _ h => h.elim) (fun _ _ => trivial) ?aB ?aS ?aL ?_; (case aO => exact HO2.out); (case aR => exact Kd.C_below HC.out HB2.out); (case aB => exact HB2.out); (case aS => exact HB2.out.size); (case aL => exact HL.out); intro v2 w3 ho hb hg hn; rw [List.nil_append] at ho; have HO3 := Aside0.mk ho; have HB3 := Aside0.mk hb; clear ho hb hg hn; obtain ⟨A3, c3, rfl⟩ := Kd.R_slice HO3.out))
    go_ret
    exact ⟨_, _, rfl, HO3.out, HB3.out⟩
theorem new_calls (w : World) (B : Nat) (c : Int) (hB : B ≤ w.heap.size) : Calls Try.prog 9 #[.int .u32 c] w fun e w' => e = .returned (.pointer (some ⟨w.heap.size, 0, none⟩)) ∧ Tr w' B w.heap.size c [] [] (fun k => k = w.heap.size) ∧ Below w.heap.size w w' := by
  have HB := Aside0.mk hB
  clear hB
  go_enter Try.func9, Try.ntmps9
  go_wp2
  go_ret
  refine ⟨rfl, ⟨.slice none 0 0, .slice none 0 0, ⟨HB.out, blk_new w _, Kd.Q_nil _ _ _ _ _, Kd.Q_nil _ _ _ _ _, fun k hk => ?_⟩, rfl, fun k hk => ?_, fun k hk => ?_⟩, below_alloc (Below.refl _ _) _⟩ <;> simp [Value.ownBlock] at hk
theorem cum_calls {w : World} {B p : Nat} {c : Int} {xs ds : List Int} {S : Nat → Prop} (h : Tr w B p c xs ds S) : Calls Try.prog 11 #[.pointer (some ⟨p, 0, none⟩)] w fun e w' => e = .returned (.int .u32 c) ∧ w' = w := by
  obtain ⟨v, u, hT, _⟩ := h
  have h0 : w.cell? ⟨p, 0, none⟩ = some (.int .u32 c) := (blk_cell hT.2.1 0).trans rfl
  clear hT
  go_enter Try.func11, Try.ntmps11
  go_wp2
  go_ret
  exact ⟨rfl, rfl⟩
theorem Tr.below {w w' : World} {B p : Nat} {c : Int} {xs ds : List Int} {S : Nat → Prop} (h : Tr w B p c xs ds S) (hb : Below w.heap.size w w') : Tr w' B p c xs ds S := by
  obtain ⟨v, u, hT, r⟩ := h
  exact ⟨v, u, hT.below hb, r⟩
/-- A copy of a row, of its own. -/
def Copied (w : World) (l : List Int) (e : Ending) (w' : World) : Prop := ∃ A c, e = .returned (.slice A l.length c) ∧ UQ w' w.heap.size (.slice A l.length c) l ∧ Below w.heap.size w w'
theorem clone_q {w : World} {A : Option Addr} {c : Nat} {l : List Int} (hc : l.length ≤ c) (hC : Kd.C (Kd.int .u32) w A l.length l) (hl : l.length ≤ 1048576) : Calls Try.prog 49 #[.slice A l.length c] w (Copied w l) :=
  (clone49 w A c l hc hC hl).mono fun e w' ⟨A', c', h1, h2, h3⟩ => ⟨A', c', h1, Kd.Q_of_R h2, h3⟩
theorem dups_calls {w : World} {B p : Nat} {c : Int} {xs ds : List Int} {S : Nat → Prop} (h : Tr w B p c xs ds S) (hl : ds.length ≤ 1000) : Calls Try.prog 14 #[.pointer (some ⟨p, 0, none⟩)] w (Copied w ds) := by
  obtain ⟨v, u, hT, _⟩ := h
  obtain ⟨A, cc, rfl, hcc, hC⟩ := uq_slice hT.2.2.2.1
  have h2 : w.cell? ⟨p, 2, none⟩ = some (.slice A ds.length cc) := (blk_cell hT.2.1 2).trans rfl
  have HC := Aside0.mk (clone_q hcc hC (by omega))
  clear hT hC
  go_enter Try.func14, Try.ntmps14
  go_wp2_with (first | (go_at_call 49; refine HC.out.mono ?_; rintro e w1 ⟨A1, c1, rfl, hq, hb⟩; have HQ := Aside0.mk hq; have HB := Aside0.mk hb; clear hq hb))
  go_ret
  exact ⟨A1, c1, rfl, HQ.out, HB.out⟩
theorem clear_calls {w : World} {B p : Nat} {c : Int} {xs ds : List Int} {S : Nat → Prop} (h : Tr w B p c xs ds S) : Calls Try.prog 15 #[.pointer (some ⟨p, 0, none⟩)] w fun e w' => (∃ r, e = .returned r) ∧ Tr w' B p c xs [] S ∧ ChgS w w' S S := by
  obtain ⟨v, u, hT, hS, hSv, hSu⟩ := h
  obtain ⟨A, cc, rfl, hcc, hC⟩ := uq_slice hT.2.2.2.1
  have h2 : w.cell? ⟨p, 2, none⟩ = some (.slice A ds.length cc) := (blk_cell hT.2.1 2).trans rfl
  have f2 : w.frozen? ⟨p, 2, none⟩ = false := blk_frozen hT.2.1 2
  have HT := Aside0.mk hT
  have HS := Aside0.mk (And.intro hS hSv)
  clear hT hC hS hSv hSu
  go_enter Try.func15, Try.ntmps15
  go_wp2
  go_end0
  have hn : ∀ k, (Value.slice none 0 0).ownBlock ≠ some k := fun k hk => by simp [Value.ownBlock] at hk
  refine ⟨⟨_, rfl⟩, ⟨v, .slice none 0 0, ⟨HT.out.1, blk_put HT.out.2.1 2 _ (cs' := #[.int .u32 c, v, .slice none 0 0]) rfl, uq_move HT.out.2.2.1 (fun k hk => Below.heap_setCell w ⟨p, 2, none⟩ _ k (HT.out.ne.1 k hk)), Kd.Q_nil _ _ _ _ _, fun k hk => hn k⟩, HS.out.1, HS.out.2, fun k hk => absurd hk (hn k)⟩, ChgS.of_grown (gb_setCell w p 2 _) (fun k hk => by injection hk with hk; rw [← hk]; exact HS.out.1)⟩
/-- How many haven't come. -/
def holes (c : Int) (xs : List Int) : Int := if xs.length = 0 then 0 else far c (xs.getD (xs.length - 1) 0) - xs.length
set_option maxRecDepth 100000 in
set_option maxHeartbeats 1000000 in
theorem holes_calls {w : World} {B p : Nat} {c : Int} {xs ds : List Int} {S : Nat → Prop} (h : Tr w B p c xs ds S) (hl : xs.length ≤ 1000) : Calls Try.prog 18 #[.pointer (some ⟨p, 0, none⟩)] w fun e w' => e = .returned (.int .i64 (holes c xs)) ∧ ∃ n, w' = w.drewN n := by
  obtain ⟨v, u, hT, _⟩ := h
  obtain ⟨A, cc, rfl, hcc, hC⟩ := uq_slice hT.2.2.1
  have h0 : w.cell? ⟨p, 0, none⟩ = some (.int .u32 c) := (blk_cell hT.2.1 0).trans rfl
  have h1 : w.cell? ⟨p, 1, none⟩ = some (.slice A xs.length cc) := (blk_cell hT.2.1 1).trans rfl
  by_cases hn : xs.length = 0
  · have HH := Aside0.mk (show holes c xs = 0 by unfold holes; rw [if_pos hn])
    rw [hn] at h1
    clear hT hC
    go_enter Try.func18, Try.ntmps18
    go_wp2
    go_ret
    exact ⟨by rw [HH.out]; rfl, 0, rfl⟩
  · obtain ⟨m, hm⟩ : ∃ m, xs.length = m + 1 := ⟨xs.length - 1, by omega⟩
    obtain ⟨ad, rfl, hcell⟩ := Kd.at_int hC (m : Int) (by omega) (by omega)
    rw [Int.toNat_natCast] at hcell
    obtain ⟨y, hy⟩ : ∃ y, y = rd xs (m : Int) := ⟨_, rfl⟩
    rw [← hy] at hcell
    have HH := Aside0.mk (show holes c xs = far c y - ((m : Int) + 1) by
      unfold holes
      rw [if_neg hn, hm, show m + 1 - 1 = m by omega, hy]
      unfold rd
      rw [Int.toNat_natCast]
      omega)
    have hf1 := far_nn c y
    have hf2 := far_lt c y
    have hml : m ≤ 1000 := by omega
    rw [hm] at h1
    clear hT hC hn hm hy hcc hl
    go_enter Try.func18, Try.ntmps18
    go_wp2_with fail
    go_quiet ((go_at_call 44; exact Calls.quiet_of_same (u32_q _ _ _)))
    go_wp2
    go_ret
    exact ⟨by rw [HH.out]; rfl, _, rfl⟩
end Go.Proofs.Ytkginabioolmiaa.Gp
