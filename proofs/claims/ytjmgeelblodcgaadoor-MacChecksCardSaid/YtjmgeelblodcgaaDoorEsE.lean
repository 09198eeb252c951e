import Derived.Test.YtjmgeelblodcgaaDoorEsD
import Derived.Test.YtjmgeelblodcgaaDoorWZeros
import Derived.Lib.SmallJoins
/- Texts in memory; the walks of Grow and Concat. -/
namespace Go.Proofs.YtjmgeelblodcgaaDoor.Sx
open Go.RowKit Go.Proofs.YtjmgeelblodcgaaDoorW.PrintWords Go.Proofs.YtjmgeelblodcgaaDoorW.PrintMore Go.Proofs.YtjmgeelblodcgaaDoor.Sh
set_option linter.unusedVariables false
set_option linter.unusedSimpArgs false
theorem info5 : (Tryd.prog.info? 5).map (fun i => (i.zero, i.size, i.bytes)) = some (some (.int .u8 0), 1, 1) := by kernel_rfl
def Bytes (l : List Int) : Prop := ∀ x ∈ l, 0 ≤ x ∧ x < 256
theorem add_row (b k : Nat) : (⟨b, 0, none⟩ : Addr).add k = ⟨b, k, none⟩ := by
  unfold Addr.add
  split
  · subst_vars; rfl
  · simp
theorem C_blk {w : World} {b t : Nat} {fr : Nat × Nat} {l : List Int} (h : w.heap[b]? = some (.cells (l.map (Value.int .u8)).toArray t fr)) (hl : l.length ≤ 1048576) : Kd.C (Kd.int .u8) w (some ⟨b, 0, none⟩) l.length l := by
  refine ⟨rfl, by omega, fun _ => ⟨_, rfl, fun j p hj => ⟨[.int .u8 p], rfl, rfl, fun i u hu => ?_⟩⟩⟩
  have hi : i = 0 := by
    cases i with
    | zero => rfl
    | succ n => simp at hu
  subst hi
  have hu' : Value.int .u8 p = u := by simpa using hu
  subst hu'
  rw [add_row, show j * (Kd.int .u8).sz + 0 = j from Nat.mul_one j, Joins.cell_of_block h j]
  simp [hj]
/-- A text that is read: its slice. -/
def Txt (w : World) (v : Value) (l : List Int) : Prop := ∃ A c, v = .slice A l.length c ∧ l.length ≤ c ∧ Kd.C (Kd.int .u8) w A l.length l ∧ Bytes l ∧ l.length ≤ 1048576
theorem Txt.below {w W : World} {v : Value} {l : List Int} (h : Txt w v l) (hb : Below w.heap.size w W) : Txt W v l := by
  obtain ⟨A, c, h1, h2, h3, h4⟩ := h
  exact ⟨A, c, h1, h2, Kd.C_below h3 hb, h4⟩
theorem txt_nil (w : World) : Txt w (.slice none 0 0) [] := ⟨none, 0, rfl, Nat.le_refl _, ⟨rfl, by decide, fun h => absurd h (by decide)⟩, fun x hx => by simp at hx, by decide⟩
theorem txt_blk {w : World} {b t : Nat} {fr : Nat × Nat} {l : List Int} (h : w.heap[b]? = some (.cells (l.map (Value.int .u8)).toArray t fr)) (hl : l.length ≤ 1048576) (hb : Bytes l) : Txt w (.slice (some ⟨b, 0, none⟩) l.length l.length) l :=
  ⟨_, _, rfl, Nat.le_refl _, C_blk h hl, hb, hl⟩
def prt (ps : List (List Int)) (k : Nat) : List Int := ps.getD k []
/-- The first k texts, one behind the other. -/
def flat (ps : List (List Int)) : Nat → List Int
  | 0 => []
  | k + 1 => flat ps k ++ prt ps k
def PartsAt (w : World) (ad : Addr) (ps : List (List Int)) : Prop :=
  ∀ k, k < ps.length → ∃ A cp, w.cell? (ad.add k) = some (.slice A (prt ps k).length cp) ∧ (prt ps k).length ≤ cp ∧ Kd.C (Kd.int .u8) w A (prt ps k).length (prt ps k) ∧ Bytes (prt ps k) ∧ (prt ps k).length ≤ 1048576
theorem parts_blk {W : World} {b t : Nat} {vs : List Value} {ps : List (List Int)} (hl : vs.length = ps.length) (h : W.heap[b]? = some (.cells vs.toArray t (0, 0))) (ht : ∀ k, k < ps.length → Txt W (vs.getD k .nilIface) (prt ps k)) : PartsAt W ⟨b, 0, none⟩ ps := by
  intro k hk
  obtain ⟨A, c, h1, h2, h3, h4, h5⟩ := ht k hk
  refine ⟨A, c, ?_, h2, h3, h4, h5⟩
  have := blk_cell h k
  rw [add_row, this, ← h1]
  have hk2 : k < vs.length := by omega
  simp [List.getElem?_eq_getElem hk2]
theorem flat_mono (ps : List (List Int)) (k j : Nat) (h : k ≤ j) : (flat ps k).length ≤ (flat ps j).length := by
  induction j with
  | zero => have : k = 0 := by omega
            subst this; exact Nat.le_refl _
  | succ j ih =>
    rcases Nat.lt_or_ge k (j + 1) with h' | h'
    · refine Nat.le_trans (ih (by omega)) ?_
      show _ ≤ (flat ps j ++ prt ps j).length
      simp
    · have : k = j + 1 := by omega
      subst this; exact Nat.le_refl _
abbrev RB (w : World) (base : Nat) (v : Value) (l : List Int) : Prop := Kd.R (Kd.int .u8) 5 w base (fun _ => True) v l
set_option maxRecDepth 100000 in
theorem grow_calls (w : World) (n : Nat) (hn : n ≤ 1048576) :
    Calls Tryd.prog 40 #[.slice none 0 0, .int .i64 n] w fun e w' => ∃ v, e = .returned v ∧ RB w' w.heap.size v [] ∧ Below w.heap.size w w' := by
  by_cases h0 : n = 0
  · subst h0
    go_enter Tryd.func40, Tryd.ntmps40
    go_wp2_with fail
    go_ret
    exact ⟨_, rfl, Kd.R_nil _ _ _ _ _, Below.refl _ _⟩
  · have hp : (0 : Int) < (n : Int) := by omega
    have HB0 := Aside0.mk (Below.refl w.heap.size w)
    have HL := Aside0.mk (show (([] : List Int).length + ((n : Int)).toNat) * 1 ≤ 140737488355328 by simp; omega)
    have hnn : ¬ (n : Int) < 0 := by omega
    go_enter Tryd.func40, Tryd.ntmps40
    go_wp2_with (first | (at_builtin; refine Kd.R_append_zeros (Kd.int .u8) (w0 := w) w.heap.size rfl (.tmp 20) (.tmp 21) 22 3 5 (.int .u8 0) 1 rfl Tryd.underlying22 (k := .i64) Tryd.underlying3 info5 rfl (by decide) (by omega) (.slice none 0 0) [] 0 (kx := .i64) (n : Int) (fun _ => True) rfl rfl rfl (fun _ _ => trivial) ?aO (by omega) ?aB ?aS ?aL ?_; (case aO => exact Kd.R_nil _ _ _ _ _); (case aB => exact HB0.out); (case aS => exact Nat.le_refl _); (case aL => exact HL.out); intro v1 w1 ho hb hg hn; have HO1 := Aside0.mk ho; have HB1 := Aside0.mk hb; clear ho hb hg hn; obtain ⟨A1, c1, rfl⟩ := Kd.R_slice HO1.out))
    go_ret
    exact ⟨_, rfl, Kd.R_take HO1.out (m := 0) (Nat.zero_le _), HB1.out⟩
set_option maxRecDepth 100000 in
theorem concat_calls (w : World) (b : Nat) (ps : List (List Int)) (n cp : Nat) (hn : n = ps.length) (hs : ps.length ≤ 1000) (hp : PartsAt w ⟨b, 0, none⟩ ps) (ht : (flat ps ps.length).length ≤ 1048576) :
    Calls Tryd.prog 29 #[.slice (some ⟨b, 0, none⟩) n cp] w fun e w' => ∃ v, e = .returned v ∧ RB w' w.heap.size v (flat ps ps.length) ∧ Below w.heap.size w w' := by
  subst hn
  have HP := Aside0.mk hp
  have HT := Aside0.mk ht
  clear hp ht
  go_enter Tryd.func29, Tryd.ntmps29
  go_wp2_with fail
  go_loop [3, 11] (fun v i => ∃ k : Nat, k ≤ ps.length ∧ i = .int .i64 k ∧ v = .int .i64 ((flat ps k).length : Nat)) (fun _ i => ps.length - (intOf i).toNat)
  case atStart => exact ⟨0, Nat.zero_le _, rfl, rfl⟩
  case round =>
    obtain ⟨k, hk, rfl, rfl⟩ := hrel
    by_cases hlt : k < ps.length
    · obtain ⟨A, c2, hcell, _⟩ := HP.out k hlt
      rw [add_row] at hcell
      have h1 := Nat.le_trans (flat_mono ps (k + 1) ps.length hlt) HT.out
      have h2 : (flat ps (k + 1)).length = (flat ps k).length + (prt ps k).length := by show (flat ps k ++ prt ps k).length = _; simp
      obtain ⟨s, hs2⟩ : ∃ s, s = (flat ps k).length := ⟨_, rfl⟩
      obtain ⟨p, hp2⟩ : ∃ s, s = (prt ps k).length := ⟨_, rfl⟩
      rw [← hs2, ← hp2] at h2
      rw [← hp2] at hcell
      rw [← hs2]
      have hb : s + p ≤ 1048576 := by omega
      have hw : wrap64 ((s : Int) + (p : Int)) = (s : Int) + (p : Int) := by unfold wrap64; omega
      have hneg : ¬ (s : Int) + (p : Int) < 0 := by omega
      have HE := Aside0.mk h2
      clear h1 h2 hs2 hp2
      go_wp2_with fail
      go_round
      case rel => exact ⟨k + 1, by omega, by go_num, by rw [HE.out]; go_num⟩
      case measure => simp [intOf]; omega
    · obtain rfl : k = ps.length := by omega
      have HG := Aside0.mk (grow_calls w (flat ps ps.length).length HT.out)
      go_wp2_with (first | (go_at_call 40; refine HG.out.mono ?_; rintro e w3 ⟨v3, rfl, hr, hb⟩; have HR3 := Aside0.mk hr; have HB3 := Aside0.mk hb; clear hr hb; obtain ⟨A3, c3, rfl⟩ := Kd.R_slice HR3.out))
      go_loopw [6, 27] (fun v i wr => ∃ (k : Nat) (A : Option Addr) (c : Nat), k ≤ ps.length ∧ i = .int .i64 k ∧ v = .slice A (flat ps k).length c ∧ Aside0 (RB wr w.heap.size v (flat ps k)) ∧ Aside0 (Below w.heap.size w wr)) (fun _ i _ => ps.length - (intOf i).toNat)
      case atStart => exact ⟨0, A3, c3, Nat.zero_le _, rfl, rfl, HR3, HB3⟩
      case round =>
        obtain ⟨k, A, c, hk, rfl, rfl, HR, HB⟩ := hrel
        by_cases hlt : k < ps.length
        · obtain ⟨A2, c2, hcell, hc2, hC, _, _⟩ := HP.out k hlt
          have hcell2 := pw_cell_below HB.out hcell
          rw [add_row] at hcell2
          have HC2 := Aside0.mk (Kd.C_below hC HB.out)
          have h1 := Nat.le_trans (flat_mono ps (k + 1) ps.length hlt) HT.out
          have h2 : (flat ps (k + 1)).length = (flat ps k).length + (prt ps k).length := by show (flat ps k ++ prt ps k).length = _; simp
          have HL := Aside0.mk (show ((flat ps k).length + (prt ps k).length) * 1 ≤ 140737488355328 by omega)
          clear h1 h2 hC hcell
          go_wp2_with (first | (at_builtin; refine Kd.R_append_rows (Kd.int .u8) (w0 := w) w.heap.size rfl (.tmp 31) (.tmp 32) 22 5 (.int .u8 0) 1 rfl Tryd.underlying22 info5 rfl (by decide) (by omega) (.slice A (flat ps k).length c) (flat ps k) (prt ps k) A2 (prt ps k).length c2 (fun _ => True) (fun _ => False) rfl rfl ?aO ?aR (fun _ _ h => h) (fun _ h => h.elim) (fun _ _ => trivial) ?aB ?aS ?aL ?_; (case aO => exact HR.out); (case aR => exact HC2.out); (case aB => exact HB.out); (case aS => exact HB.out.size); (case aL => exact HL.out); intro v2 w4 ho hb hg hn; have HO4 := Aside0.mk ho; have HB4 := Aside0.mk hb; clear ho hb hg hn; obtain ⟨A4, c4, rfl⟩ := Kd.R_slice HO4.out))
          go_roundw
          case rel =>
            have h := HO4.out
            rw [List.length_append] at h
            exact ⟨k + 1, A4, c4, by omega, by go_num, by rw [show flat ps (k + 1) = flat ps k ++ prt ps k from rfl, List.length_append], ⟨h⟩, HB4⟩
          case measure => simp [intOf]; omega
        · obtain rfl : k = ps.length := by omega
          go_wp2_with fail
          go_ret
          exact ⟨_, rfl, HR.out, HB.out⟩
end Go.Proofs.YtjmgeelblodcgaaDoor.Sx
