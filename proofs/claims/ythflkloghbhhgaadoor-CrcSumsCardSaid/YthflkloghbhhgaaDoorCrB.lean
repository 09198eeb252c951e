import Derived.Test.YthflkloghbhhgaaDoorCrA
import Derived.Test.YthflkloghbhhgaaDoorProg
import Derived.Test.YthflkloghbhhgaaDoorAid
/- The walk of run: a text's bytes, by the table. -/
namespace Go.Proofs.YthflkloghbhhgaaDoor.Cr
open Go.RowKit Go.Proofs.YthflkloghbhhgaaDoorW.PrintWords Go.Proofs.YthflkloghbhhgaaDoorW.PrintMore Go.Proofs.YthflkloghbhhgaaDoor.Sh
set_option linter.unusedVariables false
set_option linter.unusedSimpArgs false
theorem run_take (c : Nat) (l : List Int) (k : Nat) (hk : k < l.length) (y : Int) (hy : rd l k = y) : run c (l.take (k + 1)) = byt (run c (l.take k)) y := by
  have : l[k] = y := by rw [← hy]; unfold rd; simp [List.getD_eq_getElem?_getD, List.getElem?_eq_getElem hk]
  rw [List.take_succ_eq_append_getElem hk, run_append, this]; rfl
theorem lt_of1 {a b : Nat} (ha : a < 4294967296) (hb : b < 4294967296) : a ^^^ b < 4294967296 := xor_lt32 ha hb
theorem step_facts {w : World} (hg : Tab w) (x : Nat) (hx : x < 4294967296) :
    bits .and .u32 (x : Int) 15 = ((x % 16 : Nat) : Int) ∧ ((x % 16 : Nat) : Int) < 16 ∧ w.cell? ⟨0, x % 16, none⟩ = some (.int .u32 (hv (x % 16) : Int)) ∧
    bits .xor .u32 ((x : Int) / 16) (hv (x % 16) : Int) = ((nib x : Nat) : Int) ∧ 0 ≤ ((x % 16 : Nat) : Int) ∧ nib x < 4294967296 := by
  refine ⟨and32 x 4 hx (by decide), by omega, hg _ (by omega), ?_, by omega, nib_lt hx⟩
  have := xor32 (x / 16) (hv (x % 16)) (by omega) (hv_lt _)
  rw [show ((x : Int) / 16) = ((x / 16 : Nat) : Int) by omega]
  exact this
set_option maxRecDepth 100000 in
theorem run_calls (w : World) (hg : Tab w) (c : Nat) (hc : c < 4294967296) (A : Option Addr) (cp : Nat) (l : List Int) (hcp : l.length ≤ cp) (hn : l.length ≤ 1048576) (hC : Kd.C (Kd.int .u8) w A l.length l) (hl : ∀ x ∈ l, 0 ≤ x ∧ x < 256) :
    Calls Tryd.prog 17 #[.int .u32 c, .slice A l.length cp] w fun e w' => e = .returned (.int .u32 (run c l)) ∧ w' = w := by
  have HG := Aside0.mk hg
  have HC := Aside0.mk hC
  have HL := Aside0.mk hl
  have HB := Aside0.mk hc
  clear hg hC hl hc
  go_enter Tryd.func17, Tryd.ntmps17
  go_wp2_with fail
  go_loop [0, 9] (fun v i => ∃ k : Nat, k ≤ l.length ∧ i = .int .i64 k ∧ v = .int .u32 (run c (l.take k) : Nat)) (fun _ i => l.length - (intOf i).toNat)
  case atStart => exact ⟨0, Nat.zero_le _, rfl, rfl⟩
  case round =>
    obtain ⟨k, hk, rfl, rfl⟩ := hrel
    by_cases hlt : k < l.length
    · obtain ⟨ad, hA, hcell⟩ := Kd.at_int HC.out k (by omega) (by omega)
      subst hA
      obtain ⟨y, hy⟩ : ∃ y, rd l k = y := ⟨_, rfl⟩
      rw [hy, Int.toNat_natCast] at hcell
      have hy0 : 0 ≤ y ∧ y < 256 := HL.out y (by rw [← hy]; unfold rd; rw [List.getD_eq_getElem?_getD, Int.toNat_natCast, List.getElem?_eq_getElem hlt]; exact List.getElem_mem hlt)
      have hR : run c (l.take k) < 4294967296 := run_lt _ HB.out (fun x hx => by have := HL.out x (List.mem_of_mem_take hx); omega)
      have HN := Aside0.mk (run_take c l k hlt y hy)
      clear hy
      obtain ⟨R, hRe⟩ : ∃ R, R = run c (l.take k) := ⟨_, rfl⟩
      rw [← hRe] at hR HN ⊢
      clear hRe
      obtain ⟨z, rfl⟩ : ∃ z : Nat, y = z := ⟨y.toNat, by omega⟩
      have hz : ((z : Int) % 4294967296) = z := by omega
      have z1 := lt_of1 hR (show z < 4294967296 by omega)
      have h1 := xor32 R z hR (by omega)
      obtain ⟨x1, hx1⟩ : ∃ x1, x1 = R ^^^ z := ⟨_, rfl⟩
      rw [← hx1] at z1 h1
      have s1 := step_facts HG.out x1 z1
      obtain ⟨a1, a2, a3, a4, a5, a6⟩ := s1
      have s2 := step_facts HG.out (nib x1) a6
      obtain ⟨x2, hx2⟩ : ∃ x2, x2 = nib x1 := ⟨_, rfl⟩
      rw [← hx2] at a4 s2
      obtain ⟨b1, b2, b3, b4, b5, b6⟩ := s2
      have HX := Aside0.mk (⟨hx1, hx2⟩ : x1 = R ^^^ z ∧ x2 = nib x1)
      clear hx1 hx2 z1 hR
      go_wp2_with fail
      go_round
      case rel => exact ⟨k + 1, by omega, by go_num, by rw [HN.out]; unfold byt; rw [Int.toNat_natCast, ← HX.out.1, ← HX.out.2]⟩
      case measure => simp [intOf]; omega
    · obtain rfl : k = l.length := by omega
      go_wp2_with fail
      go_ret
      exact ⟨rfl, rfl⟩
end Go.Proofs.YthflkloghbhhgaaDoor.Cr
