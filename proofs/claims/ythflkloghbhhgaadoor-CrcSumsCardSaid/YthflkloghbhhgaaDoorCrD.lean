import Derived.Test.YthflkloghbhhgaaDoorCrC
/- The walk of Sum: parts of a text, one behind the other. -/
namespace Go.Proofs.YthflkloghbhhgaaDoor.Cr
open Go.RowKit Go.Proofs.YthflkloghbhhgaaDoorW.PrintWords Go.Proofs.YthflkloghbhhgaaDoorW.PrintMore Go.Proofs.YthflkloghbhhgaaDoor.Sh
set_option linter.unusedVariables false
set_option linter.unusedSimpArgs false
def Bytes (l : List Int) : Prop := ∀ x ∈ l, 0 ≤ x ∧ x < 256
def prt (ps : List (List Int)) (k : Nat) : List Int := ps.getD k []
/-- A slice of texts in memory. -/
def PartsAt (w : World) (ad : Addr) (ps : List (List Int)) : Prop :=
  ∀ k, k < ps.length → (∃ A cp, w.cell? (ad.add k) = some (.slice A (prt ps k).length cp) ∧ (prt ps k).length ≤ cp ∧ Kd.C (Kd.int .u8) w A (prt ps k).length (prt ps k)) ∧ Bytes (prt ps k) ∧ (prt ps k).length ≤ 1048576
/-- The register behind the first k parts. -/
def reg (ps : List (List Int)) : Nat → Nat
  | 0 => 4294967295
  | k + 1 => run (reg ps k) (prt ps k)
/-- The sum of parts. -/
def sum (ps : List (List Int)) : Nat := 4294967295 ^^^ reg ps ps.length
theorem bytes_nat {l : List Int} (h : Bytes l) : ∀ x ∈ l, x.toNat < 256 := fun x hx => by have := h x hx; omega
theorem reg_lt {w : World} {ad : Addr} {ps : List (List Int)} (h : PartsAt w ad ps) (k : Nat) (hk : k ≤ ps.length) : reg ps k < 4294967296 := by
  induction k with
  | zero => exact (by decide : 4294967295 < 4294967296)
  | succ k ih => exact run_lt _ (ih (by omega)) (bytes_nat (h k (by omega)).2.1)
set_option maxRecDepth 100000 in
theorem sum_calls (w : World) (hg : Tab w) (ad : Addr) (ps : List (List Int)) (n cp : Nat) (hn : n = ps.length) (hp : PartsAt w ad ps) (hs : n ≤ 1000) :
    Calls Tryd.prog 7 #[.slice (some ad) n cp] w fun e w' => e = .returned (.int .u32 (sum ps : Nat)) ∧ w' = w := by
  subst hn
  have HP := Aside0.mk hp
  have HG := Aside0.mk hg
  clear hg hp
  go_enter Tryd.func7, Tryd.ntmps7
  go_wp2_with fail
  go_loop [3, 8] (fun v i => ∃ k : Nat, k ≤ ps.length ∧ i = .int .i64 k ∧ v = .int .u32 (reg ps k : Nat)) (fun _ i => ps.length - (intOf i).toNat)
  case atStart => exact ⟨0, Nat.zero_le _, rfl, rfl⟩
  case round =>
    obtain ⟨k, hk, rfl, rfl⟩ := hrel
    by_cases hlt : k < ps.length
    · obtain ⟨⟨A, c2, hcell, hc2, hC⟩, hb, hl⟩ := HP.out k hlt
      have HR := Aside0.mk (run_calls w HG.out (reg ps k) (reg_lt HP.out k (by omega)) A c2 _ hc2 hl hC hb)
      clear hb hC
      go_wp2_with (first | (go_at_call 17; refine HR.out.mono ?_; rintro e w3 ⟨rfl, rfl⟩))
      go_round
      case rel => exact ⟨k + 1, by omega, by go_num, rfl⟩
      case measure => simp [intOf]; omega
    · obtain rfl : k = ps.length := by omega
      have HX := Aside0.mk (xor32 4294967295 (reg ps ps.length) (by decide) (reg_lt HP.out _ (Nat.le_refl _)))
      go_wp2_with fail
      go_ret
      exact ⟨by show Ending.returned (.int .u32 (bits .xor .u32 IntKind.u32.max (reg ps ps.length : Nat))) = _; rw [show IntKind.u32.max = ((4294967295 : Nat) : Int) from rfl, HX.out]; rfl, rfl⟩
end Go.Proofs.YthflkloghbhhgaaDoor.Cr
