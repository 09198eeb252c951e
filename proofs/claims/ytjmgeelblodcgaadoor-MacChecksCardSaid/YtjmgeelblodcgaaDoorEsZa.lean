import Derived.Test.YtjmgeelblodcgaaDoorEsX
/- MacChecks: the plain laws; a list of one's own as a block. -/
namespace Go.Proofs.YtjmgeelblodcgaaDoor.Sx
open Go.RowKit Go.Proofs.YtjmgeelblodcgaaDoorW.PrintWords Go.Proofs.YtjmgeelblodcgaaDoorW.PrintMore Go.Proofs.YtjmgeelblodcgaaDoor.Sh
set_option linter.unusedVariables false
set_option linter.unusedSimpArgs false
theorem map_byte_inj : ∀ {a b : List Int}, Bytes a → Bytes b → a.map (fun n => UInt8.ofNat n.toNat) = b.map (fun n => UInt8.ofNat n.toNat) → a = b
  | [], [], _, _, _ => rfl
  | [], _ :: _, _, _, h => by simp at h
  | _ :: _, [], _, _, h => by simp at h
  | x :: a, y :: b, ha, hb, h => by
    rw [List.map_cons, List.map_cons] at h
    injection h with h1 h2
    have hx := ha x (by simp)
    have hy := hb y (by simp)
    have h3 := congrArg UInt8.toNat h1
    rw [UInt8.toNat_ofNat', UInt8.toNat_ofNat'] at h3
    have : x = y := by omega
    rw [this, map_byte_inj (fun z hz => ha z (by simp [hz])) (fun z hz => hb z (by simp [hz])) h2]
theorem str_beq {a b : List Int} (ha : Bytes a) (hb : Bytes b) : ((strOfNums a).toList == (strOfNums b).toList) = decide (a = b) := by
  rw [ByteArray.toList_eq, ByteArray.toList_eq, strOfNums_data, strOfNums_data]
  by_cases h : a = b
  · rw [h]; simp
  · rw [decide_eq_false h]
    simp only [beq_eq_false_iff_ne, ne_eq]
    exact fun e => h (map_byte_inj ha hb e)
/-- Check of one text. -/
theorem check1 {W : World} {A0 : Option Addr} {n0 c0 : Nat} {tag : List Int} {A : Option Addr} {c : Nat} {key : List Int} {v1 : Value} {l1 : List Int} (r : Bool) (hr : Roots W) (hcu : Cubes W) (hn : n0 = tag.length) (hG : Txt W (.slice A0 tag.length c0) tag) (hT : Txt W (.slice A key.length c) key) (hkl : key.length ≤ 900000) (h1 : Txt W v1 l1) (hl : l1.length ≤ 800000) (hre : r = ((strOfNums tag).toList == (strOfNums (mac key l1)).toList)) :
    Calls Tryd.prog 20 #[.slice A0 n0 c0, .slice A key.length c, .slice (some ⟨W.heap.size, 0, none⟩) 1 1] (W.alloc (.cells #[v1] 22)) fun e w' => e = .returned (.bool r) ∧ Below W.heap.size W w' := by
  subst hn
  have hB := below_alloc (Below.refl W.heap.size W) (.cells #[v1] 22)
  have hp := PartsOf.blk (vs := [v1]) (ps := [l1]) rfl (blk_new W (.cells #[v1] 22)) (fun k hk => by
    have : k = 0 := by simp at hk; omega
    subst this
    exact h1.below hB)
  have hf : flat [l1] [l1].length = l1 := rfl
  refine (check_calls _ (hr.below hB) (hcu.below hB) A0 c0 tag (hG.below hB) A c key (hT.below hB) hkl _ [l1] 1 1 rfl (by simp) hp (by rw [hf]; exact hl)).mono ?_
  rintro e w' ⟨rfl, h⟩
  exact ⟨by rw [hf, hre], hB.trans (h.mono hB.size)⟩
theorem rb_block {w : World} {base g n c : Nat} {l : List Int} (h : RB w base (.slice (some ⟨g, 0, none⟩) n c) l) : ∃ cur, w.heap[g]? = some (.cells cur 5 (0, 0)) ∧ l.length ≤ c ∧ base ≤ g ∧ ∀ j, j < l.length → cur[j]? = some (.int .u8 (l.getD j 0)) := by
  obtain ⟨cur, hc⟩ := Kd.R_typed h g rfl
  obtain ⟨h1, h2, _⟩ := Kd.R_reads' h
  refine ⟨cur, hc, by omega, rb_fresh h _ rfl, fun j hj => ?_⟩
  obtain ⟨cs, _, hM, hcell, _⟩ := Kd.R_elem h (0 : Int) (j : Int) (by omega) (by omega)
  have h5 : cs = [.int .u8 (l.getD (j : Int).toNat 0)] := hM
  subst h5
  have h6 := hcell 0 _ rfl
  rw [Joins.cell_of_block hc, show (j : Int).toNat * (Kd.int .u8).sz + 0 = j from by show (j : Int).toNat * 1 + 0 = j; omega] at h6
  rw [h6, Int.toNat_natCast]
theorem xor_ne (y m : Int) (hy : 0 ≤ y ∧ y < 256) (hm : 0 < m ∧ m < 256) : bits .xor .u8 y m ≠ y := by
  rw [u8_xor y m hy.1 hy.2 (by omega) hm.2]
  intro e
  have h : y.toNat ^^^ m.toNat = y.toNat := by omega
  have h2 : y.toNat ^^^ (y.toNat ^^^ m.toNat) = y.toNat ^^^ y.toNat := by rw [h]
  rw [← Nat.xor_assoc, Nat.xor_self, Nat.zero_xor] at h2
  omega
theorem shl_run {o : Oper} {a : Act} {W : World} {x y : Operand} {r : Nat} {m : Int} (hm : m = ((2 ^ r : Nat) : Int)) (hr : r < 8) (ho : o.op = .binOp .shl 5 x y 3) (hx : a.eval x = .int .u8 1) (hy : a.eval y = .int .i64 r) : (execOp a.eval o).run Tryd.prog W = .ok (.value (.int .u8 m)) W := by
  subst hm
  unfold execOp
  simp only [ho, hx, hy]
  have : r = 0 ∨ r = 1 ∨ r = 2 ∨ r = 3 ∨ r = 4 ∨ r = 5 ∨ r = 6 ∨ r = 7 := by omega
  rcases this with rfl | rfl | rfl | rfl | rfl | rfl | rfl | rfl <;> (go_simp; rfl)
theorem pow_range (r : Nat) (h : r < 8) : 0 < ((2 ^ r : Nat) : Int) ∧ ((2 ^ r : Nat) : Int) < 256 := by
  have : r = 0 ∨ r = 1 ∨ r = 2 ∨ r = 3 ∨ r = 4 ∨ r = 5 ∨ r = 6 ∨ r = 7 := by omega
  rcases this with rfl | rfl | rfl | rfl | rfl | rfl | rfl | rfl <;> decide
theorem k_facts (k : Nat) (hk : k < 256) : ∃ q r : Nat, (k : Int).tdiv 8 = (q : Int) ∧ (k : Int).tmod 8 = (r : Int) ∧ wrap64 (q : Int) = (q : Int) ∧ wrap64 (r : Int) = (r : Int) ∧ q < 32 ∧ r < 8 ∧ (q : Int) < 32 := by
  refine ⟨k / 8, k % 8, ?_, ?_, ?_, ?_, by omega, by omega, by omega⟩
  · rw [Int.tdiv_eq_ediv_of_nonneg (by omega)]; omega
  · rw [Int.tmod_eq_emod_of_nonneg (by omega)]; omega
  · unfold wrap64; omega
  · unfold wrap64; omega
theorem flip_bytes {d : List Int} (hd : Bytes d) (q : Nat) {z : Int} (hz : 0 ≤ z ∧ z < 256) : Bytes (d.set q z) := fun x hx => by
  rcases List.mem_or_eq_of_mem_set hx with h | h
  · exact hd x h
  · rw [h]; exact hz
theorem flip_ne {d : List Int} (q : Nat) (hq : q < d.length) {z : Int} (hz : z ≠ d.getD q 0) : d.set q z ≠ d := fun e => by
  have h := congrArg (fun l => l.getD q 0) e
  simp only [List.getD_eq_getElem?_getD, List.getElem?_set_self hq] at h
  rw [List.getD_eq_getElem?_getD] at hz
  exact hz (by simpa using h)
end Go.Proofs.YtjmgeelblodcgaaDoor.Sx
