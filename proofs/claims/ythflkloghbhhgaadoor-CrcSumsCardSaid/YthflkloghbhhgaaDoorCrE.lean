import Derived.Test.YthflkloghbhhgaaDoorCrD
import Derived.RegionTactic
import Derived.ChangeAlike
/- The walks of bit and twice. -/
namespace Go.Proofs.YthflkloghbhhgaaDoor.Cr
open Go.RowKit Go.Proofs.YthflkloghbhhgaaDoorW.PrintWords Go.Proofs.YthflkloghbhhgaaDoorW.PrintMore Go.Proofs.YthflkloghbhhgaaDoor.Sh
set_option linter.unusedVariables false
set_option linter.unusedSimpArgs false
def vals (m : List Nat) : Array Value := (m.map (fun n => Value.int .u32 (n : Nat))).toArray
/-- A matrix in a block of its own. -/
def MB (w : World) (b : Nat) (m : List Nat) : Prop := m.length = 32 ∧ w.heap[b]? = some (.cells (vals m) 48 (0, 0))
theorem MB.at {w : World} {b : Nat} {m : List Nat} (h : MB w b m) : MatAt w b m := by
  intro k hk
  refine ⟨(blk_cell h.2 k).trans ?_, blk_frozen h.2 k⟩
  have : k < m.length := by rw [h.1]; exact hk
  simp [vals, mr, List.getElem?_eq_getElem this]
theorem MB.put {w : World} {b : Nat} {m : List Nat} (h : MB w b m) (k : Nat) (v : Nat) : MB (w.setCell ⟨b, k, none⟩ (.int .u32 (v : Nat))) b (m.set k v) := by
  refine ⟨by simp [h.1], blk_put h.2 k _ ?_⟩
  simp [vals, List.map_set]
theorem MB.other {w : World} {b g : Nat} {m : List Nat} (h : MB w b m) (hne : b ≠ g) (k : Nat) (v : Value) : MB (w.setCell ⟨g, k, none⟩ v) b m := ⟨h.1, blk_far h.2 (p := ⟨g, k, none⟩) hne v⟩
theorem MB.drewN {w : World} {b : Nat} {m : List Nat} (h : MB w b m) (n : Nat) : MB (w.drewN n) b m := ⟨h.1, blk_drewN h.2 n⟩
theorem MB.drew {w : World} {b : Nat} {m : List Nat} (h : MB w b m) : MB w.drew b m := ⟨h.1, blk_drew h.2⟩
theorem MB.alloc {w : World} {b : Nat} {m : List Nat} (h : MB w b m) (o : Obj) : MB (w.alloc o) b m := ⟨h.1, blk_alloc h.2 o⟩
/-- What bit's matrix is behind its first k rows. -/
def bitN (k : Nat) : List Nat := (List.range 32).map (fun i => if i = 0 then 2197175160 else if i < k then 2 ^ (i - 1) else 0)
theorem bitN_succ (k : Nat) (h0 : 1 ≤ k) (hk : k < 32) : (bitN k).set k (2 ^ (k - 1)) = bitN (k + 1) := by
  have : ∀ j : Fin 32, 1 ≤ j.1 → (bitN j.1).set j.1 (2 ^ (j.1 - 1)) = bitN (j.1 + 1) := by decide
  exact this ⟨k, hk⟩ h0
theorem two_pow (k : Nat) (h0 : 1 ≤ k) (hk : k < 32) : (2 ^ (k - 1) : Int) % 4294967296 = ((2 ^ (k - 1) : Nat) : Int) := by
  have : ∀ j : Fin 32, (2 ^ (j.1 - 1) : Int) % 4294967296 = ((2 ^ (j.1 - 1) : Nat) : Int) := by decide
  exact this ⟨k, hk⟩
set_option maxRecDepth 100000 in
theorem bit_calls (w : World) :
    Calls Tryd.prog 18 #[] w fun e w' => e = .returned (.pointer (some ⟨w.heap.size, 0, none⟩)) ∧ MB w' w.heap.size (bitN 32) ∧ Below w.heap.size w w' := by
  go_enter Tryd.func18, Tryd.ntmps18
  go_wp2_with fail
  go_loopw [2] (fun i wr => ∃ k : Nat, 1 ≤ k ∧ k ≤ 32 ∧ i = .int .i64 k ∧ Aside0 (MB wr w.heap.size (bitN k)) ∧ Aside0 (Below w.heap.size w wr)) (fun i _ => 32 - (intOf i).toNat)
  case atStart => exact ⟨1, by decide, by decide, rfl, ⟨rfl, blk_new w _⟩, ⟨(Below.refl w.heap.size w).alloc (Nat.le_refl _) _⟩⟩
  case round =>
    obtain ⟨k, h1, hk, rfl, HM, HB⟩ := hrel
    by_cases hlt : k < 32
    · have hc := HM.out.at k hlt
      have hk1 : (0 : Int) ≤ (k : Int) - 1 := by omega
      have hk2 : (k : Int) - 1 ≤ 32 := by omega
      have hk3 : wrap64 ((k : Int) - 1) = (k : Int) - 1 := by unfold wrap64; omega
      have hk4 : ((k : Int) - 1).toNat = k - 1 := by omega
      go_wp2_with fail
      go_region
      go_wp2_with fail
      go_roundw
      case rel =>
        refine ⟨k + 1, by omega, by omega, by go_num, ⟨?_⟩, ⟨?_⟩⟩
        · have h := (HM.out.put k (2 ^ (k - 1))).drew
          rw [bitN_succ k h1 hlt] at h
          rw [two_pow k h1 hlt]
          exact h
        · exact below_drew1 (HB.out.setCell (p := ⟨w.heap.size, k, none⟩) (Nat.le_refl _) _)
      case measure => simp [intOf]; omega
    · obtain rfl : k = 32 := by omega
      go_wp2_with fail
      go_ret
      exact ⟨rfl, HM.out, HB.out⟩
/-- What twice's matrix is behind its first k rows. -/
def twN (m : List Nat) (k : Nat) : List Nat := (List.range 32).map (fun i => if i < k then ofN m (mr m i) 32 else 0)
theorem twN_succ (m : List Nat) (k : Nat) (hk : k < 32) : (twN m k).set k (ofN m (mr m k) 32) = twN m (k + 1) := by
  apply List.ext_getElem
  · simp [twN]
  · intro i h1 h2
    simp only [twN, List.getElem_set, List.getElem_map, List.getElem_range]
    by_cases h : k = i
    · subst h; simp
    · rw [if_neg h]
      by_cases h3 : i < k
      · rw [if_pos h3, if_pos (by omega)]
      · rw [if_neg h3, if_neg (by omega)]
theorem twN_zero (m : List Nat) : vals (twN m 0) = #[.int .u32 0, .int .u32 0, .int .u32 0, .int .u32 0, .int .u32 0, .int .u32 0, .int .u32 0, .int .u32 0, .int .u32 0, .int .u32 0, .int .u32 0, .int .u32 0, .int .u32 0, .int .u32 0, .int .u32 0, .int .u32 0, .int .u32 0, .int .u32 0, .int .u32 0, .int .u32 0, .int .u32 0, .int .u32 0, .int .u32 0, .int .u32 0, .int .u32 0, .int .u32 0, .int .u32 0, .int .u32 0, .int .u32 0, .int .u32 0, .int .u32 0, .int .u32 0] := rfl
set_option maxRecDepth 100000 in
theorem twice_calls (w : World) (b : Nat) (m : List Nat) (hm : MB w b m) (hg : Good m) :
    Calls Tryd.prog 19 #[.pointer (some ⟨b, 0, none⟩)] w fun e w' => e = .returned (.pointer (some ⟨w.heap.size, 0, none⟩)) ∧ MB w' w.heap.size (twN m 32) ∧ Below w.heap.size w w' := by
  have HG := Aside0.mk hg
  have hb : b < w.heap.size := blk_lt hm.2
  have HM0 := Aside0.mk hm
  clear hg hm
  go_enter Tryd.func19, Tryd.ntmps19
  go_wp2_with fail
  go_loopw [9] (fun i wr => ∃ k : Nat, k ≤ 32 ∧ i = .int .i64 k ∧ Aside0 (MB wr b m) ∧ Aside0 (MB wr w.heap.size (twN m k)) ∧ Aside0 (Below w.heap.size w wr)) (fun i _ => 32 - (intOf i).toNat)
  case atStart => exact ⟨0, by decide, rfl, ⟨HM0.out.alloc _⟩, ⟨⟨rfl, blk_new w _⟩⟩, ⟨(Below.refl w.heap.size w).alloc (Nat.le_refl _) _⟩⟩
  case round =>
    obtain ⟨k, hk, rfl, HS, HM, HB⟩ := hrel
    by_cases hlt : k < 32
    · have hs := HS.out.at k hlt
      have hc := HM.out.at k hlt
      have hkk : (k : Int) < 32 := by omega
      go_wp2_with fail
      go_quiet (fail)
      go_wp2_with fail
      have HO := Aside0.mk (fun W' (hW : MB W' b m) => of_calls W' b m hW.at HG.out (mr m k) (HG.out k))
      go_region_with (go_at_call 20; refine (HO.out _ (by first | exact HS.out.drewN _ | exact (HS.out.drewN _).drew)).mono ?_; rintro e w3 ⟨rfl, rfl⟩)
      have hne : b ≠ w.heap.size := by omega
      go_wp2_with fail
      go_roundw
      case rel =>
        refine ⟨k + 1, by omega, by go_num, ⟨(HS.out.drewN _).other hne _ _⟩, ⟨?_⟩, ⟨(pw_below_drewN HB.out _).setCell (p := ⟨w.heap.size, k, none⟩) (Nat.le_refl _) _⟩⟩
        rw [← twN_succ m k hlt]
        exact (HM.out.drewN _).put k _
      case measure => simp [intOf]; omega
    · obtain rfl : k = 32 := by omega
      go_wp2_with fail
      go_ret
      exact ⟨rfl, HM.out, HB.out⟩
end Go.Proofs.YthflkloghbhhgaaDoor.Cr
