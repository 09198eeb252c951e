import Derived.Test.YtjmgeelblodcgaaDoorEsI
import Derived.DeepKeys
import Derived.Laws.StructEq
/- Digests are the same where their bytes are; parts don't matter; the walks of Sum over parts and of alive. -/
namespace Go.Proofs.YtjmgeelblodcgaaDoor.Sx
open Go.RowKit Go.Proofs.YtjmgeelblodcgaaDoorW.PrintWords Go.Proofs.YtjmgeelblodcgaaDoorW.PrintMore Go.Proofs.YtjmgeelblodcgaaDoor.Sh
set_option linter.unusedVariables false
set_option linter.unusedSimpArgs false
theorem outB_lt (now : List Nat) (i : Nat) : outB now i < 256 := Nat.mod_lt _ (by decide)
theorem dgN_bytes (now : List Nat) (k : Nat) : Bytes (dgN now k) := by
  intro x hx
  simp only [dgN, List.mem_map] at hx
  obtain ⟨i, _, rfl⟩ := hx
  have := outB_lt now i
  split <;> omega
theorem mapM_some {α β : Type} (f : α → Option β) (g : α → β) : ∀ (l : List α), (∀ x ∈ l, f x = some (g x)) → l.mapM f = some (l.map g)
  | [], _ => rfl
  | a :: r, h => by
    rw [List.mapM_cons, h a (by simp), mapM_some f g r (fun x hx => h x (by simp [hx]))]
    rfl
theorem cells5 : Tryd.prog.cellsOf 5 = 1 := by kernel_rfl
theorem cells25 : Tryd.prog.cellsOf 25 = 32 := by kernel_rfl
theorem under25 : Tryd.prog.underlying 25 = some (.array 32 5) := Tryd.underlying25
theorem lit_one (d : List Int) (hl : d.length = 32) (hb : Bytes d) (i : Nat) (hi32 : i < 32) : Tryd.prog.keyLits 1 5 (((d.map (Value.int .u8)).drop (i * Tryd.prog.cellsOf 5)).take (Tryd.prog.cellsOf 5)) = some [Lit.int .u8 (d.getD i 0)] := by
  have hil : i < d.length := by omega
  have h2 : ((d.map (Value.int .u8)).drop (i * Tryd.prog.cellsOf 5)).take (Tryd.prog.cellsOf 5) = [Value.int .u8 (d.getD i 0)] := by
    rw [cells5, Nat.mul_one, List.drop_eq_getElem_cons (by simpa using hil), List.take_succ_cons, List.take_zero]
    simp [List.getElem?_eq_getElem hil]
  rw [h2]
  unfold Program.keyLits
  simp only [Tryd.underlying5]
  have hx := hb (d.getD i 0) (by rw [List.getD_eq_getElem?_getD, List.getElem?_eq_getElem hil]; exact List.getElem_mem hil)
  obtain ⟨z, hz⟩ : ∃ z, z = d.getD i 0 := ⟨_, rfl⟩
  rw [← hz] at hx ⊢
  rw [if_pos ⟨by first | trivial | rfl, by
    simp [Lit.wf, IntKind.min, IntKind.max, IntKind.signed, IntKind.bits]
    omega⟩]
theorem lits_of (d : List Int) (hl : d.length = 32) (hb : Bytes d) : ∃ la, Tryd.prog.keyLits 2 25 (cellsB d).toList = some la := by
  have h1 : (cellsB d).toList = d.map (Value.int .u8) := by simp [cellsB]
  rw [h1]
  unfold Program.keyLits
  simp only [under25]
  rw [if_pos (by rw [cells25, List.length_map, hl]), mapM_some _ (fun i => [Lit.int .u8 (d.getD i 0)]) (List.range 32) (fun i hi => lit_one d hl hb i (by simpa using hi))]
  exact ⟨_, rfl⟩
theorem key25 : Tryd.prog.keyTypeAt 10 25 = true := by kernel_rfl
/-- Two like digests are equal. -/
theorem eq25 (d : List Int) (hl : d.length = 32) (hb : Bytes d) (w : World) : (Op.equalIn 10000 25 (.agg (cellsB d)) (.agg (cellsB d))).run Tryd.prog w = .ok true w := by
  obtain ⟨la, hla⟩ := lits_of d hl hb
  have hf : (Value.agg (cellsB d)).formed Tryd.prog 25 = true := by
    unfold Value.formed
    simp only [under25, cells25, cellsB_size, hl]
    rfl
  obtain ⟨r, hr, hiff⟩ := run_equalIn_deep (P := Tryd.prog) 9990 10 25 key25 w 2 2 (.agg (cellsB d)) (.agg (cellsB d)) la la hf hf hla hla
  rw [hr, hiff.2 rfl]
theorem eat_app (p : List Int) : ∀ (f : Nat) (now : List Nat) (l : List Int), l.length < 64 * (f + 1) → absorb (eat f now l).1 ((eat f now l).2 ++ p) = absorb now (l ++ p)
  | 0, _, _, _ => rfl
  | f + 1, now, l, h => by
    by_cases hl : l.length < 64
    · have : eat (f + 1) now l = (now, l) := by unfold eat; rw [if_pos hl]
      rw [this]
    · have h1 : eat (f + 1) now l = eat f (workF now (l.take 64)) (l.drop 64) := by
        conv => lhs; unfold eat
        rw [if_neg hl]
      rw [h1, eat_app p f _ _ (by rw [List.length_drop]; omega)]
      unfold absorb
      have hlen : (l ++ p).length = (l ++ p).length - 1 + 1 := by rw [List.length_append]; omega
      conv => rhs; rw [hlen]; unfold eat
      rw [if_neg (by rw [List.length_append]; omega), List.take_append_of_le_length (by omega), List.drop_append_of_le_length (by omega)]
      exact eat_more _ _ _ _ (by omega) (by rw [List.length_append, List.length_drop, List.length_append]; omega)
theorem absorb_app (now : List Nat) (l p : List Int) : absorb (absorb now l).1 ((absorb now l).2 ++ p) = absorb now (l ++ p) := eat_app p _ _ _ (by omega)
theorem absorb_open : ∀ (f : Nat) (now : List Nat) (l : List Int), l.length < 64 * (f + 1) → (eat f now l).2.length < 64
  | 0, now, l, h => by show l.length < 64; omega
  | f + 1, now, l, h => by
    unfold eat
    split
    · assumption
    · exact absorb_open f _ _ (by rw [List.length_drop]; omega)
theorem absorb_nil (now : List Nat) : absorb now [] = (now, []) := rfl
/-- The digest of a text. -/
def hash (l : List Int) : List Int := dgN (absorb rts (l ++ fillB l.length)).1 32
theorem hash_len (l : List Int) : (hash l).length = 32 := dgN_len _ _
theorem hash_bytes (l : List Int) : Bytes (hash l) := dgN_bytes _ _
theorem digest_hash (l : List Int) : digest (absorb rts l).1 (absorb rts l).2 l.length = hash l := by
  unfold digest hash
  rw [absorb_app]
theorem eqHash (l : List Int) (w : World) : (Op.equalIn 10000 25 (.agg (cellsB (hash l))) (.agg (cellsB (hash l)))).run Tryd.prog w = .ok true w := eq25 _ (hash_len l) (hash_bytes l) w
/-- A state to which l was added. -/
def Fed (w : World) (b : Nat) (l : List Int) : Prop := StA w b (absorb rts l).1 (absorb rts l).2 (l.length : Nat)
theorem fed_add (w : World) (b : Nat) (l : List Int) (hS : Fed w b l) (hcu : Cubes w) (h2b : 2 ≠ b) (A : Option Addr) (c : Nat) (p : List Int) (hp : Txt w (.slice A p.length c) p) (hl : l.length + p.length ≤ 900000) :
    Calls Tryd.prog 15 #[.pointer (some ⟨b, 0, none⟩), .slice A p.length c] w fun e w' => (∃ v, e = .returned v) ∧ w.grownBy w' (some b) ∧ Fed w' b (l ++ p) ∧ OpenAb w' b w.heap.size := by
  have h64 : (absorb rts l).2.length < 64 := absorb_open l.length rts l (by omega)
  have hb64 : (absorb rts l).2.length + p.length ≤ 1000000 := by omega
  refine (add_calls w b _ _ l.length hS hcu h2b A c p hp hb64 (by omega)).mono ?_
  rintro e w' ⟨h1, h2, h3, h4⟩
  refine ⟨h1, h2, ?_, h4⟩
  rw [absorb_app] at h3
  unfold Fed
  rw [List.length_append]
  exact h3
theorem fed_sum (w : World) (b : Nat) (l : List Int) (hS : Fed w b l) (hcu : Cubes w) (hl : l.length ≤ 900000) :
    Calls Tryd.prog 16 #[.pointer (some ⟨b, 0, none⟩)] w fun e w' => e = .returned (.agg (cellsB (hash l))) ∧ Below w.heap.size w w' := by
  have h64 : (absorb rts l).2.length < 64 := absorb_open l.length rts l (by omega)
  have := dsum_calls w b _ _ l.length hS hcu (by omega) (by omega)
  rw [digest_hash] at this
  exact this
theorem fed_begin (w : World) (hr : Roots w) : Calls Tryd.prog 14 #[] w fun e w' => e = .returned (.pointer (some ⟨w.heap.size, 0, none⟩)) ∧ Fed w' w.heap.size [] ∧ Below w.heap.size w w' := begin_calls w hr
end Go.Proofs.YtjmgeelblodcgaaDoor.Sx
