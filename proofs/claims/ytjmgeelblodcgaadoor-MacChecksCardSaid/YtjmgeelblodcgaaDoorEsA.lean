import Derived.Test.YtjmgeelblodcgaaDoorSh
import Derived.Test.YtjmgeelblodcgaaDoorProg
import Derived.Test.YtjmgeelblodcgaaDoorAid
import Derived.WalkSpells
import Derived.WalkLawsBesides
import Derived.Outline
import Derived.Deep.QuietTactic
import Derived.BigQuiet
/- Digests in plain numbers: words of 32 bits, turned; the walks of RotateLeft32 and turned. -/
namespace Go.Proofs.YtjmgeelblodcgaaDoor.Sx
open Go.RowKit Go.Proofs.YtjmgeelblodcgaaDoorW.PrintWords Go.Proofs.YtjmgeelblodcgaaDoorW.PrintMore Go.Proofs.YtjmgeelblodcgaaDoor.Sh
set_option linter.unusedVariables false
set_option linter.unusedSimpArgs false
theorem xor_lt32 {a b : Nat} (ha : a < 4294967296) (hb : b < 4294967296) : a ^^^ b < 4294967296 := Nat.xor_lt_two_pow (n := 32) ha hb
theorem or_lt32 {a b : Nat} (ha : a < 4294967296) (hb : b < 4294967296) : a ||| b < 4294967296 := Nat.or_lt_two_pow (n := 32) ha hb
theorem and_lt32 {a b : Nat} (ha : a < 4294967296) (hb : b < 4294967296) : a &&& b < 4294967296 := Nat.and_lt_two_pow (n := 32) a hb
theorem wrap32 (a : Nat) (ha : a < 4294967296) : IntKind.u32.wrap (a : Int) = a := by
  show (a : Int) % 4294967296 = _
  omega
theorem xor32 (a b : Nat) (ha : a < 4294967296) (hb : b < 4294967296) : bits .xor .u32 (a : Int) (b : Int) = ((a ^^^ b : Nat) : Int) := by
  have e : bits .xor .u32 (a : Int) (b : Int) = IntKind.u32.wrap ((BitVec.ofInt 32 (a : Int) ^^^ BitVec.ofInt 32 (b : Int)).toNat : Int) := rfl
  have e2 : (BitVec.ofInt 32 (a : Int) ^^^ BitVec.ofInt 32 (b : Int)).toNat = a ^^^ b := by
    rw [BitVec.toNat_xor]
    simp [BitVec.toNat_ofInt]
    rw [Nat.mod_eq_of_lt ha, Nat.mod_eq_of_lt hb]
  rw [e, e2, wrap32 _ (xor_lt32 ha hb)]
theorem or32 (a b : Nat) (ha : a < 4294967296) (hb : b < 4294967296) : bits .or .u32 (a : Int) (b : Int) = ((a ||| b : Nat) : Int) := by
  have e : bits .or .u32 (a : Int) (b : Int) = IntKind.u32.wrap ((BitVec.ofInt 32 (a : Int) ||| BitVec.ofInt 32 (b : Int)).toNat : Int) := rfl
  have e2 : (BitVec.ofInt 32 (a : Int) ||| BitVec.ofInt 32 (b : Int)).toNat = a ||| b := by
    rw [BitVec.toNat_or]
    simp [BitVec.toNat_ofInt]
    rw [Nat.mod_eq_of_lt ha, Nat.mod_eq_of_lt hb]
  rw [e, e2, wrap32 _ (or_lt32 ha hb)]
theorem and32 (a b : Nat) (ha : a < 4294967296) (hb : b < 4294967296) : bits .and .u32 (a : Int) (b : Int) = ((a &&& b : Nat) : Int) := by
  have e : bits .and .u32 (a : Int) (b : Int) = IntKind.u32.wrap ((BitVec.ofInt 32 (a : Int) &&& BitVec.ofInt 32 (b : Int)).toNat : Int) := rfl
  have e2 : (BitVec.ofInt 32 (a : Int) &&& BitVec.ofInt 32 (b : Int)).toNat = a &&& b := by
    rw [BitVec.toNat_and]
    simp [BitVec.toNat_ofInt]
    rw [Nat.mod_eq_of_lt ha, Nat.mod_eq_of_lt hb]
  rw [e, e2, wrap32 _ (and_lt32 ha hb)]
/-- A word, turned right by n places. -/
def rot (x n : Nat) : Nat := (x * 2 ^ (32 - n) % 4294967296) ||| (x / 2 ^ n)
theorem rot_lt {x n : Nat} (hx : x < 4294967296) : rot x n < 4294967296 := or_lt32 (Nat.mod_lt _ (by decide)) (Nat.lt_of_le_of_lt (Nat.div_le_self _ _) hx)
theorem rot_turns (n : Nat) (h0 : 1 ≤ n) (h1 : n ≤ 31) : bits .and .u64 (IntKind.u64.wrap (-(n : Int))) 31 = ((32 - n : Nat) : Int) := by
  have : ∀ j : Fin 32, 1 ≤ j.1 → bits .and .u64 (IntKind.u64.wrap (-(j.1 : Int))) 31 = ((32 - j.1 : Nat) : Int) := by decide
  exact this ⟨n, by omega⟩ h0
set_option maxRecDepth 100000 in
theorem rot_calls (w : World) (x n : Nat) (hx : x < 4294967296) (h0 : 1 ≤ n) (h1 : n ≤ 31) :
    Calls Tryd.prog 48 #[.int .u32 x, .int .i64 (-(n : Int))] w fun e w' => e = .returned (.int .u32 (rot x n)) ∧ w' = w := by
  have e1 := rot_turns n h0 h1
  have HX := Aside0.mk (or32 (x * 2 ^ (32 - n) % 4294967296) (x / 2 ^ n) (Nat.mod_lt _ (by decide)) (Nat.lt_of_le_of_lt (Nat.div_le_self _ _) hx))
  obtain ⟨s, hs⟩ : ∃ s, s = 32 - n := ⟨_, rfl⟩
  have HS := Aside0.mk hs
  rw [← hs] at e1
  have hs0 : (0 : Int) ≤ (s : Int) := by omega
  have hs1 : (s : Int) ≤ 32 := by omega
  have hs2 : (0 : Int) ≤ 32 - (s : Int) := by omega
  have hs3 : 32 - (s : Int) ≤ 32 := by omega
  have hs4 : (32 - (s : Int)).toNat = n := by omega
  have hs5 : IntKind.u64.wrap (32 - (s : Int)) = 32 - (s : Int) := by show (32 - (s : Int)) % 18446744073709551616 = _; omega
  clear hs
  go_enter Tryd.func48, Tryd.ntmps48
  go_wp2_with fail
  go_ret
  refine ⟨?_, rfl⟩
  have e2 : ((x : Int) * 2 ^ s % 4294967296) = ((x * 2 ^ s % 4294967296 : Nat) : Int) := by rw [Int.natCast_emod, Int.natCast_mul, Int.natCast_pow]; rfl
  have e3 : ((x : Int) / 2 ^ n) = ((x / 2 ^ n : Nat) : Int) := by rw [Int.natCast_ediv, Int.natCast_pow]; rfl
  show Ending.returned (.int .u32 (bits .or .u32 ((x : Int) * 2 ^ s % 4294967296) ((x : Int) / 2 ^ n))) = _
  rw [e2, e3, HS.out, HX.out]
  rfl
/-- A place in a list of numbers. -/
def mr (m : List Nat) (k : Nat) : Nat := m.getD k 0
/-- A word, turned by each of the first k numbers, all put together. -/
def trn (x : Nat) (ns : List Nat) : Nat → Nat
  | 0 => 0
  | k + 1 => trn x ns k ^^^ rot x (mr ns k)
theorem trn_lt {x : Nat} (hx : x < 4294967296) (ns : List Nat) (k : Nat) : trn x ns k < 4294967296 := by
  induction k with
  | zero => exact (by decide : 0 < 4294967296)
  | succ k ih => exact xor_lt32 ih (rot_lt hx)
set_option maxRecDepth 100000 in
theorem turned_calls (w : World) (b t : Nat) (ns : List Nat) (n : Nat) (x : Nat) (hx : x < 4294967296) (hn : n = ns.length) (hs : ns.length ≤ 100) (hb : ∀ k, k < ns.length → w.cell? ⟨b, k, none⟩ = some (.int .i64 (mr ns k))) (h1 : ∀ k, k < ns.length → 1 ≤ mr ns k ∧ mr ns k ≤ 31) :
    Calls Tryd.prog 43 #[.int .u32 x, .slice (some ⟨b, 0, none⟩) n n] w fun e w' => e = .returned (.int .u32 (trn x ns ns.length)) ∧ w' = w := by
  subst hn
  have HB := Aside0.mk hb
  have H1 := Aside0.mk h1
  have HX := Aside0.mk hx
  clear hb h1 hx
  go_enter Tryd.func43, Tryd.ntmps43
  go_wp2_with fail
  go_loop [5, 10] (fun v i => ∃ k : Nat, k ≤ ns.length ∧ i = .int .i64 k ∧ v = .int .u32 (trn x ns k : Nat)) (fun _ i => ns.length - (intOf i).toNat)
  case atStart => exact ⟨0, Nat.zero_le _, rfl, rfl⟩
  case round =>
    obtain ⟨k, hk, rfl, rfl⟩ := hrel
    by_cases hlt : k < ns.length
    · have hcell := HB.out k hlt
      obtain ⟨y, hy⟩ : ∃ y, mr ns k = y := ⟨_, rfl⟩
      have h1 := H1.out k hlt
      have HE := Aside0.mk (show trn x ns (k + 1) = trn x ns k ^^^ rot x (mr ns k) from rfl)
      rw [hy] at h1 hcell HE
      have HR := Aside0.mk (rot_calls w x y HX.out h1.1 h1.2)
      have hxr := xor32 (trn x ns k) (rot x y) (trn_lt HX.out ns k) (rot_lt HX.out)
      have hw : wrap64 (-(y : Int)) = -(y : Int) := by unfold wrap64; omega
      clear hy
      go_wp2_with (first | (go_at_call 48; refine HR.out.mono ?_; rintro e w3 ⟨rfl, rfl⟩))
      go_round
      case rel => exact ⟨k + 1, by omega, by go_num, by rw [HE.out]⟩
      case measure => simp [intOf]; omega
    · obtain rfl : k = ns.length := by omega
      go_wp2_with fail
      go_ret
      exact ⟨rfl, rfl⟩
end Go.Proofs.YtjmgeelblodcgaaDoor.Sx
