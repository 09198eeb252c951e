import Derived.Test.YthflkloghbhhgaaRowC
import Derived.Deep.RegionWith
import Derived.RegionTactic
namespace Go.Proofs.Ythflkloghbhhgaa.Rw
open Go.RowKit Go.Proofs.YthflkloghbhhgaaW.PrintWords Go.Proofs.Ythflkloghbhhgaa.Sh Go.Proofs.Ythflkloghbhhgaa.PAll
set_option linter.unusedVariables false
set_option linter.unusedSimpArgs false
variable {p : Nat} {fr mo : Int} {v : Value} {xs : List Int} {w : World} {B : Nat}
theorem new_bad (h : mo < 1 ∨ 1024 < mo) : Calls Try.prog 9 #[.int .u32 fr, .int .i64 mo] w fun e w' => e = .returned (.tuple #[.pointer none, .iface 38 (.int .i64 1)]) ∧ w = w' := by
  by_cases h1 : mo < 1
  · clear h
    go_enter Try.func9, Try.ntmps9
    go_wp2
    go_ret2
    exact ⟨rfl, rfl⟩
  · have h2 : 1024 < mo := by omega
    clear h
    go_enter Try.func9, Try.ntmps9
    go_wp2
    go_ret2
    exact ⟨rfl, rfl⟩
theorem new_row (h1 : 1 ≤ mo) (h2 : mo ≤ 1024) : Calls Try.prog 9 #[.int .u32 fr, .int .i64 mo] w fun e w' => e = .returned (.tuple #[.pointer (some ⟨w.heap.size, 0, none⟩), .nilIface]) ∧ w' = w.alloc (.cells #[.int .u32 fr, .int .i64 mo, .slice none 0 0] 65) := by
  go_enter Try.func9, Try.ntmps9
  go_wp2
  go_ret2
  exact ⟨rfl, rfl⟩
theorem row_new (hB : B ≤ w.heap.size) : RowAt (w.alloc (.cells #[.int .u32 fr, .int .i64 mo, .slice none 0 0] 65)) B w.heap.size fr mo (.slice none 0 0) [] :=
  ⟨hB, blk_new w _, Kd.Q_nil _ _ _ _ _⟩
theorem set_no (h : RowAt w B p fr mo v xs) (n x : Int) (hi : ¬ (n - fr) % 4294967296 < xs.length) :
    Calls Try.prog 12 #[.pointer (some ⟨p, 0, none⟩), .int .u32 n, .int .i64 x] w fun e w' => e = .returned (.iface 38 (.int .i64 4)) ∧ ∃ m, w' = w.drewN m := by
  have H1 := Aside0.mk (place_no h n hi)
  clear h hi
  go_enter Try.func12, Try.ntmps12
  go_wp2_with (first | (go_at_call 29; refine H1.out.mono ?_; rintro e w' ⟨rfl, nd, rfl⟩))
  go_ret
  exact ⟨rfl, _, rfl⟩
theorem set_yes (h : RowAt w B p fr mo v xs) (n x : Int) (i : Nat) (hi : (n - fr) % 4294967296 = i) (hl : i < xs.length) :
    Calls Try.prog 12 #[.pointer (some ⟨p, 0, none⟩), .int .u32 n, .int .i64 x] w fun e w' => e = .returned .nilIface ∧ RowAt w' B p fr mo v (xs.set i x) ∧ Chg w w' p v := by
  obtain ⟨g, o, c, rfl, hgB, hglt, _⟩ := Kd.Q_form h.2.2 (by omega)
  obtain ⟨hcell, hfro⟩ := Kd.Q_cell (d := (0 : Int)) h.2.2 i (by omega) (by omega)
  have hput := Kd.Q_putg h.2.2 i (by omega) (by omega) x
  rw [Int.toNat_natCast] at hcell hfro hput
  have H := Aside0.mk h
  have HP := Aside0.mk hput
  have hb := cc3 h.2.1
  have H1 := Aside0.mk (show Calls Try.prog 29 #[.pointer (some ⟨p, 0, none⟩), .int .u32 n] w fun e w' => e = .returned (.int .i64 i) ∧ ∃ m, w' = w.drewN m by
    have := place_yes H.out n (by omega)
    rwa [hi] at this)
  generalize rdOf 0 xs (i : Int) = y at hcell
  have hn : ((i : Int) < 0) = False := by simp
  have hl' : (i : Int) < (xs.length : Int) := by omega
  clear hi h hput
  go_enter Try.func12, Try.ntmps12
  go_wp2_with (first | (go_at_call 29; refine H1.out.mono ?_; rintro e w' ⟨rfl, nd, rfl⟩))
  go_ret
  refine ⟨rfl, ?_, ?_⟩
  · have hne : g ≠ p := fun he => H.out.ne (by rw [← he]; simp [Value.ownBlock])
    exact ⟨H.out.1, (Below.heap_setCell _ _ _ p (fun he => hne he.symm)).trans H.out.2.1, Kd.Q_drewN HP.out.1 nd⟩
  · exact ⟨rfl, rfl, rfl, by simp, fun k hk hkp hkv => Below.heap_setCell _ _ _ k (fun he => hkv (by rw [he]; simp [Value.ownBlock]))⟩
theorem pop_none (h : RowAt w B p fr mo v []) : Calls Try.prog 15 #[.pointer (some ⟨p, 0, none⟩)] w fun e w' => e = .returned (.tuple #[.int .i64 0, .iface 38 (.int .i64 4)]) ∧ w = w' := by
  have H1 := Aside0.mk (len_row h)
  simp only [List.length_nil] at H1
  clear h
  go_enter Try.func15, Try.ntmps15
  go_wp2_with (first | (go_at_call 11; refine H1.out.mono ?_; rintro e w' ⟨rfl, rfl⟩))
  go_ret2
  exact ⟨rfl, rfl⟩
end Go.Proofs.Ythflkloghbhhgaa.Rw
