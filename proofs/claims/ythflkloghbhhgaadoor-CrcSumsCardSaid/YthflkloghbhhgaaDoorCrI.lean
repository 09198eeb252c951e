import Derived.Test.YthflkloghbhhgaaDoorCrH
import Derived.Test.YthflkloghbhhgaaDoorRows
import Derived.Lib.LaidTab
import Derived.LaidMore
/- CrcParts at every input. -/
namespace Go.Proofs.YthflkloghbhhgaaDoor.Cr
open Go.RowKit Go.Proofs.YthflkloghbhhgaaDoorW.PrintWords Go.Proofs.YthflkloghbhhgaaDoorW.PrintMore Go.Proofs.YthflkloghbhhgaaDoor.Sh
set_option linter.unusedVariables false
set_option linter.unusedSimpArgs false
theorem glob_halves : Tryd.prog.globalNamed "weftline/crc.halves" = some 0 := by kernel_rfl
theorem tab_of_laid {W : World} (h : laidMetH Tryd.prog [("weftline/crc.halves", Rows.laid_weftline_crc_halves)] W) : Tab W := by
  rw [MakeChecks.laidMetH_plain _ _ _ (by kernel_rfl)] at h
  have ht : Lib.TabIs Tryd.prog W "weftline/crc.halves" .u32 (H.map Int.ofNat) :=
    Lib.tabIs_of_head (P := Tryd.prog) (t := 46) (e := 25) (n := 16) (rest := []) glob_halves (by kernel_rfl) Tryd.underlying46 Tryd.underlying25 (by kernel_rfl) (by kernel_rfl) h
  intro k hk
  rw [ht.cell glob_halves k (by rw [List.length_map]; exact hk)]
  have : ∀ j : Fin 16, (H.map Int.ofNat).getD j.1 0 = (hv j.1 : Int) := by decide
  rw [this ⟨k, hk⟩]
theorem bytes_of_wf {l : List Int} (h : ∀ z ∈ l, (Lit.int .u8 z).wf = true) : Bytes l := fun z hz => by
  have := h z hz
  simp [Lit.wf, IntKind.min, IntKind.max] at this
  have h2 : IntKind.u8.signed = false := rfl
  simp [IntKind.signed, IntKind.bits] at this
  omega
set_option maxRecDepth 100000 in
theorem crcParts_long (W : World) (A0 : Option Addr) (c0 : Nat) (l0 : List Int) (A1 : Option Addr) (c1 : Nat) (l1 : List Int) (a2 : Int) (hc0 : l0.length ≤ c0) (hc1 : l1.length ≤ c1) (h : 5000 < l0.length ∨ 5000 < l1.length) (hg : Tab W) :
    Calls Tryd.prog 3 #[.slice A0 l0.length c0, .slice A1 l1.length c1, .int .i64 a2] W (Yes W) := by
  have HG := Aside0.mk hg
  clear hg
  by_cases h0 : 5000 < l0.length
  · have n1 : decide ((5000 : Int) < (l0.length : Int)) = true := by simp; omega
    clear h
    go_enter Tryd.func3, Tryd.ntmps3
    go_wp2_with fail
    refine (alive_calls W HG.out).mono ?_
    rintro e w1 ⟨rfl, hB1⟩
    have HB1 := Aside0.mk hB1
    clear hB1
    go_wp2_with fail
    go_ret
    exact ⟨rfl, HB1.out⟩
  · have n1 : decide ((5000 : Int) < (l0.length : Int)) = false := by simp; omega
    have n2 : decide ((5000 : Int) < (l1.length : Int)) = true := by simp; omega
    clear h
    go_enter Tryd.func3, Tryd.ntmps3
    go_wp2_with fail
    refine (alive_calls W HG.out).mono ?_
    rintro e w1 ⟨rfl, hB1⟩
    have HB1 := Aside0.mk hB1
    clear hB1
    go_wp2_with fail
    go_ret
    exact ⟨rfl, HB1.out⟩
theorem crcParts_walk (W : World) (A0 : Option Addr) (c0 : Nat) (l0 : (List Int)) (A1 : Option Addr) (c1 : Nat) (l1 : (List Int)) (a2 : Int) (hc0 : l0.length ≤ c0) (hr0 : Kd.C (Kd.int .u8) W A0 l0.length l0) (w0 : (∀ zl0 ∈ l0, (Lit.int .u8 zl0).wf = true)) (hc1 : l1.length ≤ c1) (hr1 : Kd.C (Kd.int .u8) W A1 l1.length l1) (w1 : (∀ zl1 ∈ l1, (Lit.int .u8 zl1).wf = true)) (w2 : (Lit.int .i64 a2).wf = true)
    (hL : laidMetH Tryd.prog [("weftline/crc.halves", Rows.laid_weftline_crc_halves)] W) :
    Calls Tryd.prog 3 #[.slice A0 l0.length c0, .slice A1 l1.length c1, .int .i64 a2] W fun e w' => e = .returned (.bool true) ∧ Below W.heap.size W w' := by
  by_cases h : 5000 < l0.length ∨ 5000 < l1.length
  · exact crcParts_long W A0 c0 l0 A1 c1 l1 a2 hc0 hc1 h (tab_of_laid hL)
  · exact crcParts_main W A0 c0 l0 A1 c1 l1 a2 hc0 hr0 (bytes_of_wf w0) hc1 hr1 (bytes_of_wf w1) (by omega) (by omega) (tab_of_laid hL)
end Go.Proofs.YthflkloghbhhgaaDoor.Cr
