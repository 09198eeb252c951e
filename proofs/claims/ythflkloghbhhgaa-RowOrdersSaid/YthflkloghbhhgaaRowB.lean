import Derived.Test.YthflkloghbhhgaaPAllx4
import Derived.Test.YthflkloghbhhgaaPAllx15
import Derived.Test.YthflkloghbhhgaaPAllx16
import Derived.Test.YthflkloghbhhgaaRowA
import Derived.Test.YthflkloghbhhgaaWQPut
namespace Go.Proofs.Ythflkloghbhhgaa.Rw
open Go.RowKit Go.Proofs.YthflkloghbhhgaaW.PrintWords Go.Proofs.Ythflkloghbhhgaa.Sh Go.Proofs.Ythflkloghbhhgaa.PAll
set_option linter.unusedVariables false
set_option linter.unusedSimpArgs false

/-- A row of whole numbers at block p: its beginning, its bound, the slice's value, the things. -/
def RowAt (w : World) (B p : Nat) (fr mo : Int) (v : Value) (xs : List Int) : Prop :=
  B ≤ p ∧ w.heap[p]? = some (.cells #[.int .u32 fr, .int .i64 mo, v] 65 (0, 0)) ∧ (Kd.int .i64).Q 3 w B (fun _ => True) v xs
/-- What a method of the row may have turned. -/
structure Chg (w w' : World) (p : Nat) (v : Value) : Prop where
  os : w'.os = w.os
  tape : w'.tape = w.tape
  output : w'.output = w.output
  size : w.heap.size ≤ w'.heap.size
  block : ∀ k, k < w.heap.size → k ≠ p → v.ownBlock ≠ some k → w'.heap[k]? = w.heap[k]?
theorem Chg.refl (w : World) (p : Nat) (v : Value) : Chg w w p v := ⟨rfl, rfl, rfl, Nat.le_refl _, fun _ _ _ _ => rfl⟩
theorem Chg.drewN (w : World) (p m : Nat) (v : Value) : Chg w (w.drewN m) p v := ⟨rfl, rfl, rfl, Nat.le_refl _, fun _ _ _ _ => rfl⟩

section
variable {w w' : World} {B p : Nat} {fr mo : Int} {v : Value} {xs : List Int}
theorem RowAt.drewN (h : RowAt w B p fr mo v xs) (m : Nat) : RowAt (w.drewN m) B p fr mo v xs := ⟨h.1, h.2.1, Kd.Q_drewN h.2.2 m⟩
theorem RowAt.ne (h : RowAt w B p fr mo v xs) : v.ownBlock ≠ some p := fun he => Kd.Q_ne h.2.2 h.2.1 (by decide) he.symm
theorem RowAt.lt (h : RowAt w B p fr mo v xs) : p < w.heap.size := blk_lt h.2.1
theorem RowAt.slice (h : RowAt w B p fr mo v xs) : ∃ A c, v = .slice A xs.length c ∧ xs.length ≤ c ∧ (Kd.int .i64).C w A xs.length xs := Kd.Q_reads h.2.2
/-- Elsewhere may have turned what likes. -/
theorem RowAt.keep (h : RowAt w B p fr mo v xs) (hp : w'.heap[p]? = w.heap[p]?) (hv : ∀ k, v.ownBlock = some k → w'.heap[k]? = w.heap[k]?) : RowAt w' B p fr mo v xs := by
  obtain ⟨h1, h2, h3⟩ := h
  refine ⟨h1, hp.trans h2, ?_⟩
  obtain ⟨a, inner, hq, hr⟩ := h3
  exact ⟨a, inner, q_move hq hv, hr.1, fun m x hm => hr.2 m x hm⟩
end

variable {p : Nat} {fr mo : Int} {v : Value} {xs : List Int} {w : World} {B : Nat}
theorem len_row (h : RowAt w B p fr mo v xs) : Calls Try.prog 11 #[.pointer (some ⟨p, 0, none⟩)] w fun e w' => e = .returned (.int .i64 xs.length) ∧ w = w' := by
  obtain ⟨A, c, rfl, _⟩ := h.slice
  exact len_any h.2.1
theorem from_row (h : RowAt w B p fr mo v xs) : Calls Try.prog 16 #[.pointer (some ⟨p, 0, none⟩)] w fun e w' => e = .returned (.int .u32 fr) ∧ w = w' := by
  obtain ⟨A, c, rfl, _⟩ := h.slice
  exact from_any h.2.1
theorem free_row (h : RowAt w B p fr mo v xs) : Calls Try.prog 25 #[.pointer (some ⟨p, 0, none⟩)] w fun e w' => e = .returned (.int .i64 (wrap64 (mo - xs.length))) ∧ ∃ m, w' = w.drewN m := by
  obtain ⟨A, c, rfl, _⟩ := h.slice
  exact free_any h.2.1
theorem next_row (h : RowAt w B p fr mo v xs) : Calls Try.prog 18 #[.pointer (some ⟨p, 0, none⟩)] w fun e w' => e = .returned (.int .u32 ((fr + (xs.length : Int)) % 4294967296)) ∧ ∃ m, w' = w.drewN m := by
  have H := Aside0.mk h
  clear h
  go_enter Try.func18, Try.ntmps18
  go_wp2_with (first | (go_at_call 16; refine (from_row (B := B) (by first | exact H.out | exact H.out.drewN _)).mono ?_; rintro e w' ⟨rfl, rfl⟩) | (go_at_call 11; refine (len_row (B := B) (by first | exact H.out | exact H.out.drewN _)).mono ?_; rintro e w' ⟨rfl, rfl⟩) | (go_at_call 31; refine (serial_Step_uint32.calls _ _ _ _ rfl).mono ?_; rintro e w' ⟨rfl, ⟨nd, rfl⟩⟩))
  go_ret
  exact ⟨rfl, _, rfl⟩
theorem place_yes (h : RowAt w B p fr mo v xs) (n : Int) (hi : (n - fr) % 4294967296 < xs.length) : Calls Try.prog 29 #[.pointer (some ⟨p, 0, none⟩), .int .u32 n] w fun e w' => e = .returned (.int .i64 ((n - fr) % 4294967296)) ∧ ∃ m, w' = w.drewN m := by
  have H := Aside0.mk h
  clear h
  have H1 := Aside0.mk (show serial_Within_uint32.f n fr xs.length = some true by unfold serial_Within_uint32.f serial_Far_uint32.f; simp [hi])
  clear hi
  go_enter Try.func29, Try.ntmps29
  go_wp2_with (first | (go_at_call 16; refine (from_row (B := B) (by first | exact H.out | exact H.out.drewN _)).mono ?_; rintro e w' ⟨rfl, rfl⟩) | (go_at_call 11; refine (len_row (B := B) (by first | exact H.out | exact H.out.drewN _)).mono ?_; rintro e w' ⟨rfl, rfl⟩) | (go_at_call 42; refine (serial_Within_uint32.calls _ _ _ _ _ H1.out).mono ?_; rintro e w' ⟨rfl, ⟨nd, rfl⟩⟩) | (go_at_call 32; refine (serial_Far_uint32.calls _ _ _ _ rfl).mono ?_; rintro e w' ⟨rfl, ⟨nd, rfl⟩⟩))
  go_ret
  exact ⟨rfl, _, rfl⟩
theorem place_no (h : RowAt w B p fr mo v xs) (n : Int) (hi : ¬ (n - fr) % 4294967296 < xs.length) : Calls Try.prog 29 #[.pointer (some ⟨p, 0, none⟩), .int .u32 n] w fun e w' => e = .returned (.int .i64 (-1)) ∧ ∃ m, w' = w.drewN m := by
  have H := Aside0.mk h
  clear h
  have H1 := Aside0.mk (show serial_Within_uint32.f n fr xs.length = some false by unfold serial_Within_uint32.f serial_Far_uint32.f; simp; omega)
  clear hi
  go_enter Try.func29, Try.ntmps29
  go_wp2_with (first | (go_at_call 16; refine (from_row (B := B) (by first | exact H.out | exact H.out.drewN _)).mono ?_; rintro e w' ⟨rfl, rfl⟩) | (go_at_call 11; refine (len_row (B := B) (by first | exact H.out | exact H.out.drewN _)).mono ?_; rintro e w' ⟨rfl, rfl⟩) | (go_at_call 42; refine (serial_Within_uint32.calls _ _ _ _ _ H1.out).mono ?_; rintro e w' ⟨rfl, ⟨nd, rfl⟩⟩))
  go_ret
  exact ⟨rfl, _, rfl⟩
end Go.Proofs.Ythflkloghbhhgaa.Rw
