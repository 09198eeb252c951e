import Derived.Test.YtjhciagjofhhiaaCkF
import Derived.Test.YtjhciagjofhhiaaCkG
import Derived.Test.YtjhciagjofhhiaaTlL
/- ChunkSplits: alive, the walk. -/
namespace Go.Proofs.Ytjhciagjofhhiaa.Ck
open Go.RowKit Go.Proofs.YtjhciagjofhhiaaW.PrintWords Go.Proofs.YtjhciagjofhhiaaW.PrintLast Go.Proofs.YtjhciagjofhhiaaW.PrintMore Go.Proofs.Ytjhciagjofhhiaa.Sh Go.Proofs.Ytjhciagjofhhiaa.Tl
set_option linter.unusedVariables false
set_option linter.unusedSimpArgs false
theorem str_atC {W : World} {A : Option Addr} {n c : Nat} {l : List Int} (hn : n = l.length) (h : Kd.C (Kd.int .u8) W A n l) : (convert 26 9 (.slice A n c)).run Try.prog W = .ok (.string (strOfNums l)) W := by
  subst hn
  exact Kd.C_string (P := Try.prog) (A := A) (c := c) Try.underlying26 Try.underlying5 Try.underlying9 h
theorem str_4 : ((strOfNums [11, 0, 0, 4]).toList == ([11, 0, 0, 4] : List UInt8)) = true := by
  rw [ByteArray.toList_eq, strOfNums_data]
  decide
set_option maxRecDepth 100000 in
set_option maxHeartbeats 4000000 in
theorem calive_calls (w : World) : Calls Try.prog 39 #[] w fun e w' => e = .returned (.bool true) ∧ Below w.heap.size w w' := by
  have hab := str_4
  go_enter Try.func39, Try.ntmps39
  go_wp2_with fail
  refine (bytes_11 _).mono ?_
  rintro e w2 ⟨A2, c2, rfl, hR2, hb2⟩
  have HR2 := Aside0.mk (Kd.R_reads' hR2)
  have HB3 := Aside0.mk (hb2.alloc hb2.size (.cells #[.int .u8 11, .int .u8 0, .int .u8 0, .int .u8 4] 5))
  have hb23 : Below w2.heap.size w2 (w2.alloc (.cells #[.int .u8 11, .int .u8 0, .int .u8 0, .int .u8 4] 5)) := (Below.refl _ _).alloc (Nat.le_refl _) _
  have ht := txt_pre (l := B4) 4 4 rfl (Nat.le_refl _) (blk_new w2 (.cells #[.int .u8 11, .int .u8 0, .int .u8 0, .int .u8 4] 5)) (fun j hj => by
    have : j = 0 ∨ j = 1 ∨ j = 2 ∨ j = 3 := by simp at hj; omega
    rcases this with rfl | rfl | rfl | rfl <;> rfl) (by decide) bytes4
  have HRd := Aside0.mk (read_11 _ _ 4 (Nat.le_refl _) (txt_C ht).1)
  have HC3 := Aside0.mk (Kd.C_below HR2.out.2.2 hb23)
  clear hR2 hb2 hb23 ht
  go_wp2_with fail
  refine HRd.out.mono ?_
  rintro e w4 ⟨rfl, hb4⟩
  have hW : Below w4.heap.size w4 ((w4.alloc (KO 0)).setRow w4.heap.size (KL 11)) := setRow_below _ ((Below.refl _ _).alloc (Nat.le_refl _) (KO 0)) (Nat.le_refl _)
  have HS5 := Aside0.mk (store89 11 (blk_new w4 (KO 0)))
  have HB6 := Aside0.mk (below_step (below_step HB3.out hb4) hW)
  have hs6 := str_atC (n := 4) (l := B4) (c := c2) rfl (Kd.C_below (Kd.C_below HC3.out hb4) hW)
  have hk6 := k0 HS5.out.2
  clear hb4 HRd hW
  go_upto_region 3 with (first | (with_reducible refine store_whole (s := .tmp 3) rfl rfl rfl rfl HS5.out.1 ?_))
  generalize (w4.alloc (KO 0)).setRow w4.heap.size (KL 11) = w6 at HB6 hs6 hk6 ⊢
  go_wp2_with fail
  go_ret
  exact ⟨rfl, HB6.out⟩
/-- The results' texts are those of the bytes. -/
theorem c_bytes {w : World} {A : Option Addr} {l : List Int} (h : Kd.C (Kd.int .u8) w A l.length l) {n : Nat} (hn : n = l.length) : Kd.C (Kd.int .u8) w A n l := hn ▸ h
theorem num_err4 (w : World) : Calls Try.prog 52 #[.iface 55 (.int .i64 4)] w fun e w' => e = .returned (.int .i64 4) ∧ w = w' := num_err 4 rfl w
theorem num_err2 (w : World) : Calls Try.prog 52 #[.iface 55 (.int .i64 2)] w fun e w' => e = .returned (.int .i64 2) ∧ w = w' := num_err 2 rfl w
set_option maxRecDepth 100000 in
theorem num_nilI (w : World) : Calls Try.prog 52 #[.nilIface] w fun e w' => e = .returned (.int .i64 0) ∧ w = w' := by
  go_enter Try.func52, Try.ntmps52
  go_wp2
  go_ret
  exact ⟨rfl, rfl⟩
theorem bytes_wfC {l : List Int} (h : ∀ z ∈ l, (Lit.int .u8 z).wf = true) : Bytes l := by
  intro x hx
  have := h x hx
  simp [Lit.wf, IntKind.min, IntKind.max, IntKind.signed, IntKind.bits] at this
  omega
/-- What both answer, in one form. -/
theorem both {w4 w5 : World} {b : List Int} {e5 : Ending} {A0 : Option Addr} {c0 : Nat} (h5 : Splits w4 b e5 w5) :
    ∃ (kk : Int) (X Y : List Int) (A : Option Addr) (c : Nat) (A2 : Option Addr) (c2 : Nat) (ev : Value) (code : Int), e5 = .returned (.tuple #[.int .i64 kk, .slice A X.length c, .slice A2 Y.length c2, ev]) ∧ RB w5 w4.heap.size (.slice A X.length c) X ∧ X.length ≤ b.length ∧ Kd.C (Kd.int .u8) w5 A2 Y.length Y ∧
      (∀ w, Calls Try.prog 52 #[ev] w fun e w' => e = .returned (.int .i64 code) ∧ w = w') ∧
      (∀ e6 w6, RSplits w5 A0 c0 b e6 w6 → ∃ (A7 : Option Addr) (c7 : Nat) (A8 : Option Addr) (c8 : Nat), e6 = .returned (.tuple #[.int .i64 kk, .slice A7 X.length c7, .slice A8 Y.length c8, .int .i64 code]) ∧ Kd.C (Kd.int .u8) w5 A7 X.length X ∧ Kd.C (Kd.int .u8) w5 A8 Y.length Y ∧ Below w5.heap.size w5 w6) := by
  obtain ⟨_, h⟩ := h5
  rcases h with ⟨hb, he⟩ | ⟨hb, hn, he⟩ | ⟨hok, A, c, A2, c2, he, hR, hR2, _⟩
  · refine ⟨0, [], [], none, 0, none, 0, _, 4, he, Kd.R_nil _ _ _ _ _, Nat.zero_le _, c_none _ _, num_err4, ?_⟩
    rintro e6 w6 ⟨hB6, h6⟩
    rcases h6 with ⟨_, he6⟩ | ⟨h, _⟩ | ⟨h, _⟩
    · exact ⟨none, 0, none, 0, he6, c_none _ _, c_none _ _, hB6⟩
    · exact absurd hb h
    · have h1 := h.1
      rw [hb] at h1
      simp at h1
  · refine ⟨0, [], [], none, 0, none, 0, _, 2, he, Kd.R_nil _ _ _ _ _, Nat.zero_le _, c_none _ _, num_err2, ?_⟩
    rintro e6 w6 ⟨hB6, h6⟩
    rcases h6 with ⟨h, _⟩ | ⟨_, _, he6⟩ | ⟨h, _⟩
    · exact absurd h hb
    · exact ⟨none, 0, none, 0, he6, c_none _ _, c_none _ _, hB6⟩
    · exact absurd h hn
  · refine ⟨b.getD 0 0, b.take (allOf b), b.drop (allOf b), A, c, A2, c2, .nilIface, 0, he, hR, by rw [List.length_take]; exact Nat.min_le_right _ _, (Kd.R_reads' hR2).2.2, num_nilI, ?_⟩
    rintro e6 w6 ⟨hB6, h6⟩
    rcases h6 with ⟨h, _⟩ | ⟨_, h, _⟩ | ⟨_, A8, he6, hC7, hC8⟩
    · have h1 := hok.1
      rw [h] at h1
      simp at h1
    · exact absurd hok h
    · exact ⟨A0, c0, A8, c0 - allOf b, he6, hC7, hC8, hB6⟩
set_option maxRecDepth 100000 in
set_option maxHeartbeats 8000000 in
theorem chunkSplits_walk (W : World) (A0 : Option Addr) (c0 : Nat) (l0 : (List Int)) (a1 : Int) (hc0 : l0.length ≤ c0) (hr0 : Kd.C (Kd.int .u8) W A0 l0.length l0) (w0 : (∀ zl0 ∈ l0, (Lit.int .u8 zl0).wf = true)) (w1 : (Lit.int .i64 a1).wf = true) :
    Calls Try.prog 9 #[.slice A0 l0.length c0, .int .i64 a1] W fun e w' => e = .returned (.bool true) ∧ Below W.heap.size W w' := by
  have HBY := Aside0.mk (bytes_wfC w0)
  have HC := Aside0.mk (And.intro hc0 hr0)
  clear w0 hr0 hc0 w1
  go_enter Try.func9, Try.ntmps9
  go_wp2_with fail
  refine (calive_calls W).mono ?_
  rintro e w1 ⟨rfl, hB1⟩
  have HB1 := Aside0.mk hB1
  clear hB1
  by_cases hl : 3000 < l0.length
  · have hli : (3000 : Int) < (l0.length : Int) := by omega
    go_wp2_with fail
    go_ret
    exact ⟨rfl, HB1.out⟩
  · have hli : ¬ (3000 : Int) < (l0.length : Int) := by omega
    have HL := Aside0.mk (show l0.length ≤ 1048576 by omega)
    have HLA := Aside0.mk (show (([] : List Int).length + l0.length) * 1 ≤ 140737488355328 by simp; omega)
    clear hl
    go_wp2_with (first | ((with_reducible refine gate_dst (N := 20) rfl ?_); refine Kd.R_lit (Kd.int .u8) (w0 := W) W.heap.size 5 ?hg (N := 20) ?hd (xs := ([] : List Int)) (inner := []) (ok := fun _ => True) (okp := fun _ => True) ?hr ?hp (fun _ hk => hk) trivial HB1.out HB1.out.size (by simp) ?_; (case hd => rfl); (case hg => rfl); (case hr => first | (go_simp; done) | (go_simp; rfl)); (case hp => exact (Reps.none _ _)); intro v2 w3 ho hb hg hn; have HO2 := Aside0.mk ho; have HB3 := Aside0.mk hb; clear ho hb hg hn; obtain ⟨A2, c2, rfl⟩ := Kd.R_slice HO2.out) | (at_builtin; refine Kd.R_append_rows (Kd.int .u8) (w0 := W) W.heap.size rfl (.tmp 20) (.tmp 21) 26 5 (.int .u8 0) 1 rfl Try.underlying26 info5 rfl (by decide) (by omega) (.slice A2 ([] : List Int).length c2) [] l0 A0 l0.length c0 (fun _ => True) (fun _ => False) rfl rfl ?aO ?aR (fun _ _ h => h) (fun _ h => h.elim) (fun _ _ => trivial) ?aB ?aS ?aL ?_; (case aO => exact HO2.out); (case aR => exact Kd.C_below HC.out.2 HB3.out); (case aB => exact HB3.out); (case aS => exact HB3.out.size); (case aL => exact HLA.out); intro v4 w4 ho hb hg hn; rw [List.nil_append] at ho; have HO4 := Aside0.mk ho; have HB4 := Aside0.mk hb; clear ho hb hg hn; obtain ⟨A4, c4, rfl⟩ := Kd.R_slice HO4.out))
    have HR4 := Aside0.mk (Kd.R_reads' HO4.out)
    refine (split_calls w4 A4 c4 l0 HR4.out.2.1 HR4.out.2.2 HL.out HBY.out).mono ?_
    intro e5 w5 h5
    have hb5 := h5.1
    obtain ⟨kk, X, Y, A5, c5, A6, c6, ev, code, rfl, hX, hXb, hY, hnum, href⟩ := both (A0 := A0) (c0 := c0) h5
    have HW5 := Aside0.mk hb5
    have HX5 := Aside0.mk hX
    have HY5 := Aside0.mk hY
    have HNUM := Aside0.mk hnum
    have HREF := Aside0.mk href
    have hX9 : X.length ≤ 1048576 := Nat.le_trans hXb HL.out
    clear hb5 hX hXb hY hnum href h5
    go_wp2_with fail
    refine (rsplit_calls w5 A0 c0 l0 HC.out.1 (Kd.C_below HC.out.2 (below_step HB4.out HW5.out)) HL.out HBY.out).mono ?_
    intro e6 w6 h6
    obtain ⟨A7, c7, A8, c8, rfl, hC7, hC8, hb6⟩ := HREF.out e6 w6 h6
    have HW6 := Aside0.mk (below_step HW5.out hb6)
    have HX6 := Aside0.mk (Kd.R_below HX5.out hb6)
    have hs1 := str_atC (c := c5) rfl (Kd.R_reads' HX6.out).2.2
    have hs2 := str_atC (c := c7) rfl (Kd.C_below hC7 hb6)
    have hs3 := str_atC (c := c6) rfl (Kd.C_below HY5.out hb6)
    have hs4 := str_atC (c := c8) rfl (Kd.C_below hC8 hb6)
    clear hC7 hC8 hb6 h6 HREF
    go_wp2_with (first | (go_at_call 52; refine (HNUM.out _).mono ?_; rintro e w7 ⟨rfl, rfl⟩) | (go_at_call 53; refine (known_calls _ _).mono ?_; rintro e w7 ⟨rfl, hb7⟩; have HW7 := Aside0.mk (below_step HW6.out hb7); have HX7 := Aside0.mk (Kd.R_below HX6.out hb7); clear hb7) | (go_at_call 54; refine (rknown_calls _ _).mono ?_; rintro e w8 ⟨rfl, hd8⟩; have HW8 := Aside0.mk (below_step HW7.out hd8.below); have HX8 := Aside0.mk (Kd.R_below HX7.out hd8.below); clear hd8))
    have HW9 := Aside0.mk HW8.out
    have HQ9 := Aside0.mk (Kd.Q_of_R HX8.out)
    clear hs1 hs2 hs3 hs4 HX6 HX7 HX8 HW6 HW7
    go_loopw [69] (fun q wx => ∃ (j2 : Nat) (cur : List Int), j2 ≤ X.length ∧ q = .int .i64 j2 ∧ Aside0 (cur.length = X.length) ∧ Aside0 (Below w4.heap.size w4 wx) ∧ Aside0 ((Kd.int .u8).Q 5 wx w4.heap.size (fun _ => True) (.slice A5 X.length c5) cur)) (fun q _ => X.length - (intOf q).toNat)
    case atStart => exact ⟨0, X, Nat.zero_le _, rfl, ⟨rfl⟩, HW9, HQ9⟩
    case round =>
      rename World => wx
      obtain ⟨j2, cur, hj2, rfl, HLL, HPx, HQx⟩ := hrel
      by_cases hlt2 : j2 < X.length
      · obtain ⟨b, o, c9, hform, _, _, _⟩ := Kd.Q_form HQx.out (by have := HLL.out; omega)
        simp only [Value.slice.injEq] at hform
        obtain ⟨rfl, _, rfl⟩ := hform
        obtain ⟨hcell, hfro⟩ := Kd.Q_cell (d := (0 : Int)) HQx.out j2 (by omega) (by have := HLL.out; omega)
        (try simp only [Int.toNat_natCast] at hcell hfro)
        obtain ⟨y0, hy0⟩ : ∃ y0, rdOf (0 : Int) cur (j2 : Int) = y0 := ⟨_, rfl⟩
        rw [hy0] at hcell
        clear hy0
        have hge := Kd.Q_base HQx.out b rfl
        have hput := fun u => (Kd.Q_putg HQx.out (j2 : Int) (by omega) (by have := HLL.out; omega) u).1
        simp only [Int.toNat_natCast] at hput
        have HPUT := Aside0.mk hput
        have HBP := Aside0.mk (fun (u : Value) => HPx.out.setCell (p := ⟨b, o + j2, none⟩) hge u)
        clear hput hge
        have hi2 : (j2 : Int) < (X.length : Int) := by omega
        go_wp2_with fail
        exact ⟨⟨j2 + 1, _, by omega, by go_num, ⟨by rw [List.length_set]; exact HLL.out⟩, ⟨HBP.out _⟩, ⟨HPUT.out _⟩⟩, by simp [intOf]; omega⟩
      · obtain rfl : j2 = X.length := by omega
        have hs5 := str_atC (c := c4) rfl (Kd.C_below HR4.out.2.2 HPx.out)
        have hs6 := str_atC (c := c0) rfl (Kd.C_below HC.out.2 (below_step HB4.out HPx.out))
        go_wp2_with fail
        go_ret
        exact ⟨rfl, below_step HB4.out HPx.out⟩
end Go.Proofs.Ytjhciagjofhhiaa.Ck
