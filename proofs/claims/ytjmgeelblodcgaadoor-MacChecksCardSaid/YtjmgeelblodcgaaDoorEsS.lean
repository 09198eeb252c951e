import Derived.Test.YtjmgeelblodcgaaDoorEsC
/- A step's numbers, in the model's words. -/
namespace Go.Proofs.YtjmgeelblodcgaaDoor.Sx
open Go.RowKit Go.Proofs.YtjmgeelblodcgaaDoorW.PrintWords Go.Proofs.YtjmgeelblodcgaaDoorW.PrintMore Go.Proofs.YtjmgeelblodcgaaDoor.Sh
set_option linter.unusedVariables false
set_option linter.unusedSimpArgs false
def chs (t u w : Nat) : Nat := (t &&& u) ^^^ ((4294967295 ^^^ t) &&& w)
def maj (p q r : Nat) : Nat := ((p &&& q) ^^^ (p &&& r)) ^^^ (q &&& r)
def stX (x4 x5 x6 x7 kc av : Nat) : Nat := ((((x7 + trn x4 [6, 11, 25] 3) % 4294967296 + chs x4 x5 x6) % 4294967296 + kc) % 4294967296 + av) % 4294967296
def stH (x0 x1 x2 xx : Nat) : Nat := ((xx + trn x0 [2, 13, 22] 3) % 4294967296 + maj x0 x1 x2) % 4294967296
theorem mod32_lt (a : Nat) : a % 4294967296 < 4294967296 := Nat.mod_lt _ (by decide)
theorem x_facts (x4 x5 x6 x7 kc av : Nat) (h4 : x4 < 4294967296) (h5 : x5 < 4294967296) (h6 : x6 < 4294967296) : ∃ y1 c1 nt c2 ch y2 y3 : Nat,
    IntKind.u32.wrap ((x7 : Int) + ((trn x4 [6, 11, 25] 3 : Nat) : Int)) = (y1 : Int) ∧ bits .and .u32 (x4 : Int) (x5 : Int) = (c1 : Int) ∧ bits .xor .u32 IntKind.u32.max (x4 : Int) = (nt : Int) ∧ bits .and .u32 (nt : Int) (x6 : Int) = (c2 : Int) ∧
    bits .xor .u32 (c1 : Int) (c2 : Int) = (ch : Int) ∧ IntKind.u32.wrap ((y1 : Int) + (ch : Int)) = (y2 : Int) ∧ IntKind.u32.wrap ((y2 : Int) + (kc : Int)) = (y3 : Int) ∧ IntKind.u32.wrap ((y3 : Int) + (av : Int)) = ((stX x4 x5 x6 x7 kc av : Nat) : Int) :=
  ⟨_, _, _, _, _, _, _, wadd _ _, and32 _ _ h4 h5, xor32 4294967295 x4 (by decide) h4, and32 _ _ (xor_lt32 (by decide) h4) h6, xor32 _ _ (and_lt32 h4 h5) (and_lt32 (xor_lt32 (by decide) h4) h6), wadd _ _, wadd _ _, wadd _ _⟩
theorem h_facts (x0 x1 x2 xx : Nat) (h0 : x0 < 4294967296) (h1 : x1 < 4294967296) (h2 : x2 < 4294967296) : ∃ z1 m1 m2 m3 m4 m5 : Nat,
    IntKind.u32.wrap ((xx : Int) + ((trn x0 [2, 13, 22] 3 : Nat) : Int)) = (z1 : Int) ∧ bits .and .u32 (x0 : Int) (x1 : Int) = (m1 : Int) ∧ bits .and .u32 (x0 : Int) (x2 : Int) = (m2 : Int) ∧ bits .xor .u32 (m1 : Int) (m2 : Int) = (m3 : Int) ∧
    bits .and .u32 (x1 : Int) (x2 : Int) = (m4 : Int) ∧ bits .xor .u32 (m3 : Int) (m4 : Int) = (m5 : Int) ∧ IntKind.u32.wrap ((z1 : Int) + (m5 : Int)) = ((stH x0 x1 x2 xx : Nat) : Int) :=
  ⟨_, _, _, _, _, _, wadd _ _, and32 _ _ h0 h1, and32 _ _ h0 h2, xor32 _ _ (and_lt32 h0 h1) (and_lt32 h0 h2), and32 _ _ h1 h2, xor32 _ _ (xor_lt32 (and_lt32 h0 h1) (and_lt32 h0 h2)) (and_lt32 h1 h2), wadd _ _⟩
/-- The constants, and where they lie. -/
def cub : List Nat := [0x428a2f98, 0x71374491, 0xb5c0fbcf, 0xe9b5dba5, 0x3956c25b, 0x59f111f1, 0x923f82a4, 0xab1c5ed5, 0xd807aa98, 0x12835b01, 0x243185be, 0x550c7dc3, 0x72be5d74, 0x80deb1fe, 0x9bdc06a7, 0xc19bf174, 0xe49b69c1, 0xefbe4786, 0x0fc19dc6, 0x240ca1cc, 0x2de92c6f, 0x4a7484aa, 0x5cb0a9dc, 0x76f988da, 0x983e5152, 0xa831c66d, 0xb00327c8, 0xbf597fc7, 0xc6e00bf3, 0xd5a79147, 0x06ca6351, 0x14292967, 0x27b70a85, 0x2e1b2138, 0x4d2c6dfc, 0x53380d13, 0x650a7354, 0x766a0abb, 0x81c2c92e, 0x92722c85, 0xa2bfe8a1, 0xa81a664b, 0xc24b8b70, 0xc76c51a3, 0xd192e819, 0xd6990624, 0xf40e3585, 0x106aa070, 0x19a4c116, 0x1e376c08, 0x2748774c, 0x34b0bcb5, 0x391c0cb3, 0x4ed8aa4a, 0x5b9cca4f, 0x682e6ff3, 0x748f82ee, 0x78a5636f, 0x84c87814, 0x8cc70208, 0x90befffa, 0xa4506ceb, 0xbef9a3f7, 0xc67178f2]
def kub (i : Nat) : Nat := cub.getD i 0
def Cubes (w : World) : Prop := ∀ k, k < 64 → w.cell? ⟨2, k, none⟩ = some (.int .u32 (kub k : Nat))
/-- A step of the registers and the message. -/
def ix (k j : Nat) : Nat := (j + 64 - k) % 8
def stepX (v ms : List Nat) (k : Nat) : Nat := stX (mr v (ix k 4)) (mr v (ix k 5)) (mr v (ix k 6)) (mr v (ix k 7)) (kub k) (if k < 16 then mr ms k else newW ms k)
def stepV (v ms : List Nat) (k : Nat) : List Nat := (v.set (ix k 3) ((mr v (ix k 3) + stepX v ms k) % 4294967296)).set (ix k 7) (stH (mr v (ix k 0)) (mr v (ix k 1)) (mr v (ix k 2)) (stepX v ms k))
theorem ix_lt (k j : Nat) : ix k j < 8 := Nat.mod_lt _ (by decide)
theorem index8_0 (a b c d e f g h : Nat) (W : World) : (Instr.index 57 (.agg #[.int .u32 (a : Nat), .int .u32 (b : Nat), .int .u32 (c : Nat), .int .u32 (d : Nat), .int .u32 (e : Nat), .int .u32 (f : Nat), .int .u32 (g : Nat), .int .u32 (h : Nat)]) (.int .i64 0)).run Tryd.prog W = .ok (.int .u32 (a : Nat)) W := by kernel_rfl
theorem index8_1 (a b c d e f g h : Nat) (W : World) : (Instr.index 57 (.agg #[.int .u32 (a : Nat), .int .u32 (b : Nat), .int .u32 (c : Nat), .int .u32 (d : Nat), .int .u32 (e : Nat), .int .u32 (f : Nat), .int .u32 (g : Nat), .int .u32 (h : Nat)]) (.int .i64 1)).run Tryd.prog W = .ok (.int .u32 (b : Nat)) W := by kernel_rfl
theorem index8_2 (a b c d e f g h : Nat) (W : World) : (Instr.index 57 (.agg #[.int .u32 (a : Nat), .int .u32 (b : Nat), .int .u32 (c : Nat), .int .u32 (d : Nat), .int .u32 (e : Nat), .int .u32 (f : Nat), .int .u32 (g : Nat), .int .u32 (h : Nat)]) (.int .i64 2)).run Tryd.prog W = .ok (.int .u32 (c : Nat)) W := by kernel_rfl
theorem index8_3 (a b c d e f g h : Nat) (W : World) : (Instr.index 57 (.agg #[.int .u32 (a : Nat), .int .u32 (b : Nat), .int .u32 (c : Nat), .int .u32 (d : Nat), .int .u32 (e : Nat), .int .u32 (f : Nat), .int .u32 (g : Nat), .int .u32 (h : Nat)]) (.int .i64 3)).run Tryd.prog W = .ok (.int .u32 (d : Nat)) W := by kernel_rfl
theorem index8_4 (a b c d e f g h : Nat) (W : World) : (Instr.index 57 (.agg #[.int .u32 (a : Nat), .int .u32 (b : Nat), .int .u32 (c : Nat), .int .u32 (d : Nat), .int .u32 (e : Nat), .int .u32 (f : Nat), .int .u32 (g : Nat), .int .u32 (h : Nat)]) (.int .i64 4)).run Tryd.prog W = .ok (.int .u32 (e : Nat)) W := by kernel_rfl
theorem index8_5 (a b c d e f g h : Nat) (W : World) : (Instr.index 57 (.agg #[.int .u32 (a : Nat), .int .u32 (b : Nat), .int .u32 (c : Nat), .int .u32 (d : Nat), .int .u32 (e : Nat), .int .u32 (f : Nat), .int .u32 (g : Nat), .int .u32 (h : Nat)]) (.int .i64 5)).run Tryd.prog W = .ok (.int .u32 (f : Nat)) W := by kernel_rfl
theorem index8_6 (a b c d e f g h : Nat) (W : World) : (Instr.index 57 (.agg #[.int .u32 (a : Nat), .int .u32 (b : Nat), .int .u32 (c : Nat), .int .u32 (d : Nat), .int .u32 (e : Nat), .int .u32 (f : Nat), .int .u32 (g : Nat), .int .u32 (h : Nat)]) (.int .i64 6)).run Tryd.prog W = .ok (.int .u32 (g : Nat)) W := by kernel_rfl
theorem index8_7 (a b c d e f g h : Nat) (W : World) : (Instr.index 57 (.agg #[.int .u32 (a : Nat), .int .u32 (b : Nat), .int .u32 (c : Nat), .int .u32 (d : Nat), .int .u32 (e : Nat), .int .u32 (f : Nat), .int .u32 (g : Nat), .int .u32 (h : Nat)]) (.int .i64 7)).run Tryd.prog W = .ok (.int .u32 (h : Nat)) W := by kernel_rfl
theorem index8 (vv : List Nat) (hl : vv.length = 8) (j : Nat) (hj : j < 8) (W : World) : (Instr.index 57 (.agg (vals vv)) (.int .i64 j)).run Tryd.prog W = .ok (.int .u32 (mr vv j : Nat)) W := by
  match vv, hl with
  | [a, b, c, d, e, f, g, h], _ =>
    have : j = 0 ∨ j = 1 ∨ j = 2 ∨ j = 3 ∨ j = 4 ∨ j = 5 ∨ j = 6 ∨ j = 7 := by omega
    rcases this with rfl | rfl | rfl | rfl | rfl | rfl | rfl | rfl
    · exact index8_0 a b c d e f g h W
    · exact index8_1 a b c d e f g h W
    · exact index8_2 a b c d e f g h W
    · exact index8_3 a b c d e f g h W
    · exact index8_4 a b c d e f g h W
    · exact index8_5 a b c d e f g h W
    · exact index8_6 a b c d e f g h W
    · exact index8_7 a b c d e f g h W
end Go.Proofs.YtjmgeelblodcgaaDoor.Sx

