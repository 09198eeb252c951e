import Derived.Test.YthflkloghbhhgaaRowF
namespace Go.Proofs.Ythflkloghbhhgaa.Rw
open Go.RowKit Go.Proofs.YthflkloghbhhgaaW.PrintWords Go.Proofs.YthflkloghbhhgaaW.PrintMore Go.Proofs.Ythflkloghbhhgaa.Sh Go.Proofs.Ythflkloghbhhgaa.PAll
set_option linter.unusedVariables false
set_option linter.unusedSimpArgs false
variable {p : Nat} {fr mo : Int} {v : Value} {xs : List Int} {w : World} {B : Nat}
theorem cut_no (h : RowAt w B p fr mo v xs) (n : Int) (hi : (xs.length : Int) < (n - fr) % 4294967296) :
    Calls Try.prog 17 #[.pointer (some ⟨p, 0, none⟩), .int .u32 n] w fun e w' => e = .returned (.tuple #[.slice none 0 0, .iface 38 (.int .i64 1)]) ∧ ∃ m, w' = w.drewN m := by
  obtain ⟨A, c, rfl, _⟩ := h.slice
  have hb := cc3 h.2.1
  obtain ⟨k, hk⟩ : ∃ k, k = (n - fr) % 4294967296 := ⟨_, rfl⟩
  have H1 := Aside0.mk (show serial_Far_uint32.f fr n = some k by rw [hk]; rfl)
  have hk2 : (xs.length : Int) < k := by omega
  clear h hi hk
  go_enter Try.func17, Try.ntmps17
  go_wp2_with (first | (go_at_call 32; refine (serial_Far_uint32.calls _ _ _ _ H1.out).mono ?_; rintro e w' ⟨rfl, ⟨nd, rfl⟩⟩))
  go_ret2
  exact ⟨rfl, _, rfl⟩
/-- What Cut hands out, and leaves. -/
def Cuts (w : World) (B p : Nat) (mo : Int) (v : Value) (xs : List Int) (k : Nat) (n : Int) (e : Ending) (w' : World) : Prop :=
  ∃ A c v', e = .returned (.tuple #[.slice A k c, .nilIface]) ∧ (Kd.int .i64).R 3 w' w.heap.size (fun _ => True) (.slice A k c) (xs.take k) ∧
    RowAt w' B p n mo v' (xs.drop k) ∧ Chg w w' p v ∧ (v'.ownBlock = v.ownBlock ∨ v'.ownBlock = none)
set_option maxRecDepth 100000 in
theorem cut_yes (h : RowAt w B p fr mo v xs) (n : Int) (k : Nat) (hi : (n - fr) % 4294967296 = k) (hl : k ≤ xs.length) (hm : xs.length ≤ 1024) :
    Calls Try.prog 17 #[.pointer (some ⟨p, 0, none⟩), .int .u32 n] w (Cuts w B p mo v xs k n) := by
  obtain ⟨A, c, rfl, hc, hC⟩ := h.slice
  have H := Aside0.mk h
  have hb := cc3 h.2.1
  have hlt := h.lt
  have H1 := Aside0.mk (show serial_Far_uint32.f fr n = some (k : Int) by rw [← hi]; rfl)
  obtain ⟨i0, hi0, _, hsz, _⟩ := info_parts info3
  have hto := cut_to 25 3 .i64 Try.underlying25 hi0 A xs.length c (k : Int) (by omega) (by omega) (by omega)
  have hfrom := cut_from 25 3 .i64 Try.underlying25 hi0 1 hsz A xs.length c (k : Int) (by omega) (by omega)
  have hQ := Kd.Q_drop (k := k) h.2.2 (by omega)
  have hT := (Kd.Q_reads' (Kd.Q_take (m := k) h.2.2 hl)).2.2
  have htl : (xs.take k).length = k := by simp; omega
  have HTL := Aside0.mk htl
  have HT := Aside0.mk (show (Kd.int .i64).C w A k (xs.take k) by rw [htl] at hT; exact hT)
  rw [Int.toNat_natCast] at hto hfrom
  obtain ⟨v', hv'⟩ : ∃ v', v' = Value.slice (if c = k then A else A.map (·.add (k * 1))) (xs.length - k) (c - k) := ⟨_, rfl⟩
  have hown : v'.ownBlock = (Value.slice A xs.length c).ownBlock := by
    rw [hv']
    split
    · cases A <;> rfl
    · cases A with
      | none => rfl
      | some ad => simp [Value.ownBlock, Addr.add]; split <;> rfl
  have hQ' : (Kd.int .i64).Q 3 w B (fun _ => True) v' (xs.drop k) := by rw [hv']; exact hQ
  obtain ⟨A1, n1, c1, hform⟩ := q_form hQ'
  have hcut' : ∀ W : World, (Instr.slice 25 (.slice A xs.length c) (some (.int .i64 k)) none none).run Try.prog W = .ok (.slice A1 n1 c1) W := by
    intro W
    rw [← hform, hv']
    exact hfrom W
  rw [hform] at hown hQ'
  have HQ := Aside0.mk hQ'
  have HO := Aside0.mk hown
  have hl' : (k : Int) ≤ (xs.length : Int) := by omega
  have HM := Aside0.mk (show k ≤ 1024 by omega)
  clear h hfrom hQ hv' hform hQ' hown hi0 hsz hi hT htl hC
  go_enter Try.func17, Try.ntmps17
  go_wp2_with (first | (go_at_call 32; refine (serial_Far_uint32.calls _ _ _ _ H1.out).mono ?_; rintro e w' ⟨rfl, ⟨nd, rfl⟩⟩) | (go_at_call 33; refine (clone_row (Kd.C_drewN HT.out _) HM.out).mono ?_; rintro e w1 ⟨A2, c2, rfl, hR, hBl⟩; rw [HTL.out] at hR; have HR := Aside0.mk hR; have HBl := Aside0.mk hBl; clear hR hBl; have HR1 := Aside0.mk (H.out.keep (w' := w1) (HBl.out.block p H.out.lt) (fun k hk => HBl.out.block k (Kd.Q_lt H.out.2.2 k hk))); have hb1 := cc3 HR1.out.2.1))
  go_ret2
  refine ⟨A2, c2, .slice A1 n1 c1, rfl, ?_, ?_, ?_, Or.inl HO.out⟩
  · have e1 := blk_put HR1.out.2.1 2 (.slice A1 n1 c1) rfl
    exact Kd.R_set (Kd.R_set HR.out HR1.out.2.1 (by decide) 2 _) e1 (by decide) 0 _
  · exact (HR1.out.two (Kd.Q_step HQ.out (fun k _ hk => HBl.out.block k hk)) 0).1
  · exact ⟨HBl.out.os, HBl.out.tape, HBl.out.output, by simpa using HBl.out.size, fun k hk hp hv => (Below.heap_setCell _ _ _ k hp).trans ((Below.heap_setCell _ _ _ k hp).trans (HBl.out.block k hk))⟩
end Go.Proofs.Ythflkloghbhhgaa.Rw
