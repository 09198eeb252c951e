import Derived.Test.YthflkloghbhhgaaProg
import Derived.WalkKit
import Derived.WalkSpells
import Derived.WalkLawsBesides
import Derived.Outline
import Derived.Deep.QuietTactic
import Derived.BigQuiet
import Derived.Test.YthflkloghbhhgaaSh
import Derived.Test.YthflkloghbhhgaaPAllx4
import Derived.Test.YthflkloghbhhgaaPAllx15
import Derived.Test.YthflkloghbhhgaaPAllx16
import Derived.Test.YthflkloghbhhgaaWQPut
import Derived.StillTailTactics
import Derived.Deep.RegionWith
import Derived.RegionTactic
import Derived.Test.YthflkloghbhhgaaRowD
/- The row of strings: what the chapter's example needs. -/
namespace Go.Proofs.Ythflkloghbhhgaa.Rs
open Go.RowKit Go.Proofs.YthflkloghbhhgaaW.PrintWords Go.Proofs.Ythflkloghbhhgaa.Sh Go.Proofs.Ythflkloghbhhgaa.PAll
open Go.Proofs.Ythflkloghbhhgaa.Rw (Chg chg_put grown_drewN)
set_option linter.unusedVariables false
set_option linter.unusedSimpArgs false
variable {p n c : Nat} {A : Option Addr} {fr mo : Int} {w : World}
theorem len_any (hb : w.heap[p]? = some (.cells #[.int .u32 fr, .int .i64 mo, .slice A n c] 85 (0, 0))) :
    Calls Try.prog 28 #[.pointer (some ⟨p, 0, none⟩)] w fun e w' => e = .returned (.int .i64 n) ∧ w = w' := by
  have hc := cc3 hb
  clear hb
  go_enter Try.func28, Try.ntmps28
  go_wp2
  go_ret
  exact ⟨rfl, rfl⟩
theorem from_any (hb : w.heap[p]? = some (.cells #[.int .u32 fr, .int .i64 mo, .slice A n c] 85 (0, 0))) :
    Calls Try.prog 44 #[.pointer (some ⟨p, 0, none⟩)] w fun e w' => e = .returned (.int .u32 fr) ∧ w = w' := by
  have hc := cc3 hb
  clear hb
  go_enter Try.func44, Try.ntmps44
  go_wp2
  go_ret
  exact ⟨rfl, rfl⟩
theorem free_any (hb : w.heap[p]? = some (.cells #[.int .u32 fr, .int .i64 mo, .slice A n c] 85 (0, 0))) :
    Calls Try.prog 40 #[.pointer (some ⟨p, 0, none⟩)] w fun e w' => e = .returned (.int .i64 (wrap64 (mo - n))) ∧ ∃ m, w' = w.drewN m := by
  have hc := cc3 hb
  clear hb
  go_enter Try.func40, Try.ntmps40
  go_wp2
  go_quiet (fail)
  go_wp2
  go_ret
  exact ⟨rfl, _, rfl⟩

/-- A row of whole numbers at block p: its beginning, its bound, the slice's value, the things. -/
def RowAt (w : World) (B p : Nat) (fr mo : Int) (v : Value) (xs : List ByteArray) : Prop :=
  B ≤ p ∧ w.heap[p]? = some (.cells #[.int .u32 fr, .int .i64 mo, v] 85 (0, 0)) ∧ Kd.string.Q 9 w B (fun _ => True) v xs
section
variable {w w' : World} {B p : Nat} {fr mo : Int} {v : Value} {xs : List ByteArray}
theorem RowAt.drewN (h : RowAt w B p fr mo v xs) (m : Nat) : RowAt (w.drewN m) B p fr mo v xs := ⟨h.1, h.2.1, Kd.Q_drewN h.2.2 m⟩
theorem RowAt.ne (h : RowAt w B p fr mo v xs) : v.ownBlock ≠ some p := fun he => Kd.Q_ne h.2.2 h.2.1 (by decide) he.symm
theorem RowAt.lt (h : RowAt w B p fr mo v xs) : p < w.heap.size := blk_lt h.2.1
theorem RowAt.slice (h : RowAt w B p fr mo v xs) : ∃ A c, v = .slice A xs.length c ∧ xs.length ≤ c ∧ Kd.string.C w A xs.length xs := Kd.Q_reads h.2.2
/-- Elsewhere may have turned what likes. -/
theorem RowAt.keep (h : RowAt w B p fr mo v xs) (hp : w'.heap[p]? = w.heap[p]?) (hv : ∀ k, v.ownBlock = some k → w'.heap[k]? = w.heap[k]?) : RowAt w' B p fr mo v xs := by
  obtain ⟨h1, h2, h3⟩ := h
  refine ⟨h1, hp.trans h2, ?_⟩
  obtain ⟨a, inner, hq, hr⟩ := h3
  exact ⟨a, inner, q_move hq hv, hr.1, fun m x hm => hr.2 m x hm⟩
end

variable {v : Value} {xs : List ByteArray} {B : Nat}
theorem len_row (h : RowAt w B p fr mo v xs) : Calls Try.prog 28 #[.pointer (some ⟨p, 0, none⟩)] w fun e w' => e = .returned (.int .i64 xs.length) ∧ w = w' := by
  obtain ⟨A, c, rfl, _⟩ := h.slice
  exact len_any h.2.1
theorem from_row (h : RowAt w B p fr mo v xs) : Calls Try.prog 44 #[.pointer (some ⟨p, 0, none⟩)] w fun e w' => e = .returned (.int .u32 fr) ∧ w = w' := by
  obtain ⟨A, c, rfl, _⟩ := h.slice
  exact from_any h.2.1
theorem free_row (h : RowAt w B p fr mo v xs) : Calls Try.prog 40 #[.pointer (some ⟨p, 0, none⟩)] w fun e w' => e = .returned (.int .i64 (wrap64 (mo - xs.length))) ∧ ∃ m, w' = w.drewN m := by
  obtain ⟨A, c, rfl, _⟩ := h.slice
  exact free_any h.2.1
theorem next_row (h : RowAt w B p fr mo v xs) : Calls Try.prog 41 #[.pointer (some ⟨p, 0, none⟩)] w fun e w' => e = .returned (.int .u32 ((fr + (xs.length : Int)) % 4294967296)) ∧ ∃ m, w' = w.drewN m := by
  have H := Aside0.mk h
  clear h
  go_enter Try.func41, Try.ntmps41
  go_wp2_with (first | (go_at_call 44; refine (from_row (B := B) (by first | exact H.out | exact H.out.drewN _)).mono ?_; rintro e w' ⟨rfl, rfl⟩) | (go_at_call 28; refine (len_row (B := B) (by first | exact H.out | exact H.out.drewN _)).mono ?_; rintro e w' ⟨rfl, rfl⟩) | (go_at_call 31; refine (serial_Step_uint32.calls _ _ _ _ rfl).mono ?_; rintro e w' ⟨rfl, ⟨nd, rfl⟩⟩))
  go_ret
  exact ⟨rfl, _, rfl⟩
theorem info9 : (Try.prog.info? 9).map (fun i => (i.zero, i.size, i.bytes)) = some (some (.string ByteArray.empty), 1, 16) := by kernel_rfl
/-- What a store of the slice's new value leaves. -/
theorem row_put {w1 : World} {v1 : Value} {ys : List ByteArray} {fr' : Int} (hb1 : w1.heap[p]? = some (.cells #[.int .u32 fr', .int .i64 mo, v] 85 (0, 0))) (hB : B ≤ p) (hQ : Kd.string.Q 9 w1 B (fun _ => True) v1 ys) :
    RowAt (w1.setCell ⟨p, 2, none⟩ v1) B p fr' mo v1 ys :=
  ⟨hB, blk_put hb1 2 v1 rfl, Kd.Q_set hQ hb1 (by decide) 2 v1⟩
theorem q_form {w1 : World} {v1 : Value} {ys : List ByteArray} {ok : Nat → Prop} (h : Kd.string.Q 9 w1 B ok v1 ys) : ∃ A n c, v1 = .slice A n c := by
  obtain ⟨A, c, hv, _⟩ := Kd.Q_slice h
  exact ⟨A, _, c, hv⟩
set_option maxRecDepth 100000 in
theorem push_row (h : RowAt w B p fr mo v xs) (x : ByteArray) (hl : (xs.length : Int) < mo) (hm : mo ≤ 1024) :
    Calls Try.prog 27 #[.pointer (some ⟨p, 0, none⟩), .string x] w fun e w' => e = .returned (.tuple #[.int .u32 ((fr + (xs.length : Int)) % 4294967296), .nilIface]) ∧
      ∃ v', RowAt w' B p fr mo v' (xs ++ [x]) ∧ Chg w w' p v ∧ (v'.ownBlock = v.ownBlock ∨ ∃ b, v'.ownBlock = some b ∧ w.heap.size ≤ b) := by
  obtain ⟨f, hf⟩ : ∃ f, f = wrap64 (mo - xs.length) := ⟨_, rfl⟩
  have hf0 : (f == 0) = false := by rw [beq_eq_false_iff_ne, hf]; unfold wrap64; omega
  have H1 := Aside0.mk (show Calls Try.prog 40 #[.pointer (some ⟨p, 0, none⟩)] w fun e w' => e = .returned (.int .i64 f) ∧ ∃ m, w' = w.drewN m by
    have := free_row h
    rwa [← hf] at this)
  clear hf
  have H := Aside0.mk h
  have hb := cc3 h.2.1
  have HL := Aside0.mk (show (xs.length + 1) * 16 ≤ 140737488355328 by omega)
  clear h hl hm
  go_enter Try.func27, Try.ntmps27
  go_wp2_with (first | (go_at_call 40; refine H1.out.mono ?_; rintro e w' ⟨rfl, nd, rfl⟩) | (go_at_call 41; refine (next_row (B := B) (by first | exact H.out | exact H.out.drewN _)).mono ?_; rintro e w' ⟨rfl, nd2, rfl⟩) | (at_builtin; refine Kd.Q_append Kd.string B rfl (.tmp 17) (.tmp 19) 83 9 (.string ByteArray.empty) 16 rfl Try.underlying83 info9 rfl (by decide) (by decide) v xs x [.string x] (fun _ => True) (fun _ => False) rfl rfl rfl (fun _ h => h.elim) (fun _ _ => trivial) (Kd.Q_drewN H.out.2.2 _) (Below.refl _ _) (Nat.le_of_lt (Nat.lt_of_le_of_lt H.out.1 H.out.lt)) HL.out ?_; intro v1 w1 hQ0 hBel hgrow0 hat0; have HQ := Aside0.mk hQ0; have HG := Aside0.mk hgrow0; have HA := Aside0.mk hat0; clear hQ0 hBel hgrow0 hat0; obtain ⟨A1, n1, c1, rfl⟩ := q_form HQ.out; have HB1 := Aside0.mk ((HG.out.block p H.out.lt (fun he => H.out.ne he.symm)).trans H.out.2.1); have hb1 := cc3 HB1.out))
  go_ret2
  exact ⟨rfl, _, row_put HB1.out H.out.1 HQ.out, chg_put (grown_drewN HG.out), HA.out⟩
theorem new_row (h1 : 1 ≤ mo) (h2 : mo ≤ 1024) : Calls Try.prog 26 #[.int .u32 fr, .int .i64 mo] w fun e w' => e = .returned (.tuple #[.pointer (some ⟨w.heap.size, 0, none⟩), .nilIface]) ∧ w' = w.alloc (.cells #[.int .u32 fr, .int .i64 mo, .slice none 0 0] 85) := by
  go_enter Try.func26, Try.ntmps26
  go_wp2
  go_ret2
  exact ⟨rfl, rfl⟩
theorem row_new (hB : B ≤ w.heap.size) : RowAt (w.alloc (.cells #[.int .u32 fr, .int .i64 mo, .slice none 0 0] 85)) B w.heap.size fr mo (.slice none 0 0) [] :=
  ⟨hB, blk_new w _, Kd.Q_nil _ _ _ _ _⟩
end Go.Proofs.Ythflkloghbhhgaa.Rs
