/- MacDerives: for every input the law returns true, and its arguments read as before: the row, out of the walk; no condition. -/
import Derived.Test.YtjmgeelblodcgaaDoorZMacDerivesCardSaid1
import Derived.Test.YtjmgeelblodcgaaDoorWWords
import Derived.Test.YtjmgeelblodcgaaDoorWArr
import Derived.ProofKit
import Derived.OpenShut
import Derived.Deep.Slices
import Derived.ChangeArms
import Derived.Test.YtjmgeelblodcgaaDoorRows
import Derived.WalkKit
import Derived.ShutString
import Derived.ChangeOld
import Derived.Below
import Derived.SizedLaws
import Derived.Carry
import Derived.LaidMore
import Derived.Stop.Joined
import Derived.SevenTiedAt
import Derived.Test.YtjmgeelblodcgaaDoorTie
import Derived.Test.YtjmgeelblodcgaaDoorCards
/- EsNb -/
namespace Go.Proofs.YtjmgeelblodcgaaDoor.Sx
open Go.RowKit Go.Proofs.YtjmgeelblodcgaaDoorW.PrintWords Go.Proofs.YtjmgeelblodcgaaDoorW.PrintLast Go.Proofs.YtjmgeelblodcgaaDoorW.PrintMore Go.Proofs.YtjmgeelblodcgaaDoor.Sh Go.Proofs.YtjmgeelblodcgaaDoor.PLes
set_option linter.unusedVariables false
set_option linter.unusedSimpArgs false
/-- Two texts, the less one first. -/
def ord (a b : List Int) : List Int := if 0 < lexI a b then b ++ a else a ++ b
theorem ord_swap (a b : List Int) : ord b a = ord a b := by
  have h := lexI_swap a b
  unfold ord
  by_cases h1 : 0 < lexI a b
  · rw [if_pos h1, if_neg (by omega)]
  · rw [if_neg h1]
    by_cases h2 : 0 < lexI b a
    · rw [if_pos h2]
    · rw [if_neg h2, lexI_eq a b (by omega)]
set_option maxRecDepth 100000 in
set_option maxHeartbeats 4000000 in
theorem derive_calls (w : World) (hr : Roots w) (hcu : Cubes w) (A : Option Addr) (c : Nat) (a : List Int) (ha : Txt w (.slice A a.length c) a) (B : Option Addr) (d : Nat) (b : List Int) (hb : Txt w (.slice B b.length d) b) (C : Option Addr) (ps : List (List Int)) (n cp : Nat) (hn : n = ps.length) (hs : ps.length ≤ 1000) (hp : PartsOf w C ps) (hal : a.length ≤ 1000) (hbl : b.length ≤ 1000) (ht : (flat ps ps.length).length ≤ 800000) :
    Calls Tryd.prog 24 #[.slice A a.length c, .slice B b.length d, .slice C n cp] w fun e w' => ∃ D, e = .returned (.slice (some ⟨D, 0, none⟩) 32 32) ∧ Txt w' (.slice (some ⟨D, 0, none⟩) 32 32) (hash (ord a b ++ flat ps ps.length)) ∧ Below w.heap.size w w' := by
  subst hn
  have HR := Aside0.mk hr
  have HCU := Aside0.mk hcu
  have HP := Aside0.mk hp
  have HT := Aside0.mk ht
  have HA := Aside0.mk ha
  have HBT := Aside0.mk hb
  have HCM := Aside0.mk (compare_calls w A c a ha B d b hb)
  have h2w : 2 < w.heap.size := cell_lt (HCU.out 0 (by decide))
  obtain ⟨x, hx⟩ : ∃ x, x = lexI a b := ⟨_, rfl⟩
  rw [← hx] at HCM
  clear hr hcu hp ht ha hb
  by_cases hgt : 0 < x
  · have n0 : decide ((0 : Int) < x) = true := by simp; omega
    have HOE := Aside0.mk (show ord a b = b ++ a by unfold ord; rw [if_pos (by omega)])
    clear hx
    go_enter Tryd.func24, Tryd.ntmps24
    go_wp2_with fail
    refine HCM.out.mono ?_
    rintro e w1 ⟨rfl, rfl⟩
    go_wp2_with fail
    refine (fed_begin w1 HR.out).mono ?_
    rintro e w2 ⟨rfl, hf2, hb2⟩
    obtain ⟨g, hge⟩ : ∃ g, g = w1.heap.size := ⟨_, rfl⟩
    rw [← hge] at hf2 ⊢
    have hgw : w1.heap.size ≤ g := by rw [hge]; exact Nat.le_refl _
    have h2g : 2 ≠ g := by rw [hge]; omega
    have HB2 := Aside0.mk hb2
    have HF2 := Aside0.mk hf2
    have HAD := Aside0.mk (fed_add w2 g [] HF2.out (HCU.out.below HB2.out) h2g B d b (HBT.out.below HB2.out) (by simp; omega))
    clear hb2 hf2 hge
    go_wp2_with fail
    refine HAD.out.mono ?_
    rintro e w4 ⟨⟨u4, rfl⟩, hg4, hf4, _⟩
    rw [List.nil_append] at hf4
    have HF4 := Aside0.mk hf4
    have HB4 := Aside0.mk (HB2.out.trans (gb_to hg4 HB2.out.size (fun j e => by cases e; exact hgw)))
    have HAD2 := Aside0.mk (fed_add w4 g b HF4.out (HCU.out.below HB4.out) h2g A c a (HA.out.below HB4.out) (by omega))
    clear hg4 hf4 HAD HF2 HB2
    go_wp2_with fail
    refine HAD2.out.mono ?_
    rintro e w5 ⟨⟨u5, rfl⟩, hg5, hf5, _⟩
    have HF5 := Aside0.mk (show Fed w5 g (b ++ a ++ flat ps 0) by show Fed w5 g (b ++ a ++ []); rw [List.append_nil]; exact hf5)
    have HB5 := Aside0.mk (HB4.out.trans (gb_to hg5 HB4.out.size (fun j e => by cases e; exact hgw)))
    clear hg5 hf5 HAD2 HF4 HB4
    go_wp2_with fail
    go_loopw [26] (fun i wr => ∃ k : Nat, k ≤ ps.length ∧ i = .int .i64 k ∧ Aside0 (Fed wr g (b ++ a ++ flat ps k)) ∧ Aside0 (Below w1.heap.size w1 wr)) (fun i _ => ps.length - (intOf i).toNat)
    case atStart => exact ⟨0, Nat.zero_le _, rfl, HF5, HB5⟩
    case round =>
      obtain ⟨k, hk, rfl, HF, HB⟩ := hrel
      by_cases hlt : k < ps.length
      · obtain ⟨ad, A', c2, hA, hcell, htx⟩ := HP.out k hlt
        subst hA
        have hcell2 := pw_cell_below HB.out hcell
        have h1 := Nat.le_trans (flat_mono ps (k + 1) ps.length hlt) HT.out
        have h2 : (flat ps (k + 1)).length = (flat ps k).length + (prt ps k).length := by show (flat ps k ++ prt ps k).length = _; simp
        have HAD := Aside0.mk (fed_add wr g (b ++ a ++ flat ps k) HF.out (HCU.out.below HB.out) h2g A' c2 (prt ps k) (htx.below HB.out) (by rw [List.length_append, List.length_append]; omega))
        clear hcell htx h1 h2
        go_wp2_with (first | (go_at_call 15; refine HAD.out.mono ?_; rintro e w6 ⟨⟨u, rfl⟩, hg, hf, _⟩; have HG6 := Aside0.mk hg; have HF6 := Aside0.mk hf; clear hg hf))
        go_roundw
        case rel => exact ⟨k + 1, by omega, by go_num, ⟨by have h := HF6.out; rw [List.append_assoc (b ++ a)] at h; exact h⟩, ⟨HB.out.trans (gb_to HG6.out HB.out.size (fun j e => by cases e; exact hgw))⟩⟩
        case measure => simp [intOf]; omega
      · obtain rfl : k = ps.length := by omega
        have HSM := Aside0.mk (fed_sum wr g _ HF.out (HCU.out.below HB.out) (by rw [List.length_append, List.length_append]; have := HT.out; omega))
        go_wp2_with fail
        refine HSM.out.mono ?_
        rintro e w7 ⟨rfl, hb⟩
        obtain ⟨dd, hd⟩ : ∃ dd, dd = hash (b ++ a ++ flat ps ps.length) := ⟨_, rfl⟩
        have hdl : dd.length = 32 := by rw [hd]; exact hash_len _
        have hdb : Bytes dd := by rw [hd]; exact hash_bytes _
        have HD := Aside0.mk hd
        rw [← hd]
        have HB7 := HB.out.trans (hb.mono HB.out.size)
        have hst := store32 (w7.alloc (.cells zero32 25)) w7.heap.size dd hdl (old := List.replicate 32 0) (blk_new w7 _) rfl
        have HST := Aside0.mk hst.1
        have HB8 := Aside0.mk (below_setRow (below_alloc HB7 (.cells zero32 25)) HB7.size (cellsB dd))
        have HX8 := Aside0.mk (txt_pre (l := dd) 32 32 (by rw [hdl]) (Nat.le_refl _) hst.2 (fun j hj => by rw [cellsB_get dd j hj]) (by omega) hdb)
        clear hst hb hd HSM hdb hdl HB7
        go_wp2_with (first | (refine store_whole (s := .tmp 10) rfl rfl rfl rfl HST.out ?_))
        go_ret
        exact ⟨w7.heap.size, rfl, by rw [HOE.out, ← HD.out]; exact HX8.out, HB8.out⟩
  · have n0 : decide ((0 : Int) < x) = false := by simp; omega
    have HOE := Aside0.mk (show ord a b = a ++ b by unfold ord; rw [if_neg (by omega)])
    clear hx
    go_enter Tryd.func24, Tryd.ntmps24
    go_wp2_with fail
    refine HCM.out.mono ?_
    rintro e w1 ⟨rfl, rfl⟩
    go_wp2_with fail
    refine (fed_begin w1 HR.out).mono ?_
    rintro e w2 ⟨rfl, hf2, hb2⟩
    obtain ⟨g, hge⟩ : ∃ g, g = w1.heap.size := ⟨_, rfl⟩
    rw [← hge] at hf2 ⊢
    have hgw : w1.heap.size ≤ g := by rw [hge]; exact Nat.le_refl _
    have h2g : 2 ≠ g := by rw [hge]; omega
    have HB2 := Aside0.mk hb2
    have HF2 := Aside0.mk hf2
    have HAD := Aside0.mk (fed_add w2 g [] HF2.out (HCU.out.below HB2.out) h2g A c a (HA.out.below HB2.out) (by simp; omega))
    clear hb2 hf2 hge
    go_wp2_with fail
    refine HAD.out.mono ?_
    rintro e w4 ⟨⟨u4, rfl⟩, hg4, hf4, _⟩
    rw [List.nil_append] at hf4
    have HF4 := Aside0.mk hf4
    have HB4 := Aside0.mk (HB2.out.trans (gb_to hg4 HB2.out.size (fun j e => by cases e; exact hgw)))
    have HAD2 := Aside0.mk (fed_add w4 g a HF4.out (HCU.out.below HB4.out) h2g B d b (HBT.out.below HB4.out) (by omega))
    clear hg4 hf4 HAD HF2 HB2
    go_wp2_with fail
    refine HAD2.out.mono ?_
    rintro e w5 ⟨⟨u5, rfl⟩, hg5, hf5, _⟩
    have HF5 := Aside0.mk (show Fed w5 g (a ++ b ++ flat ps 0) by show Fed w5 g (a ++ b ++ []); rw [List.append_nil]; exact hf5)
    have HB5 := Aside0.mk (HB4.out.trans (gb_to hg5 HB4.out.size (fun j e => by cases e; exact hgw)))
    clear hg5 hf5 HAD2 HF4 HB4
    go_wp2_with fail
    go_loopw [26] (fun i wr => ∃ k : Nat, k ≤ ps.length ∧ i = .int .i64 k ∧ Aside0 (Fed wr g (a ++ b ++ flat ps k)) ∧ Aside0 (Below w1.heap.size w1 wr)) (fun i _ => ps.length - (intOf i).toNat)
    case atStart => exact ⟨0, Nat.zero_le _, rfl, HF5, HB5⟩
    case round =>
      obtain ⟨k, hk, rfl, HF, HB⟩ := hrel
      by_cases hlt : k < ps.length
      · obtain ⟨ad, A', c2, hA, hcell, htx⟩ := HP.out k hlt
        subst hA
        have hcell2 := pw_cell_below HB.out hcell
        have h1 := Nat.le_trans (flat_mono ps (k + 1) ps.length hlt) HT.out
        have h2 : (flat ps (k + 1)).length = (flat ps k).length + (prt ps k).length := by show (flat ps k ++ prt ps k).length = _; simp
        have HAD := Aside0.mk (fed_add wr g (a ++ b ++ flat ps k) HF.out (HCU.out.below HB.out) h2g A' c2 (prt ps k) (htx.below HB.out) (by rw [List.length_append, List.length_append]; omega))
        clear hcell htx h1 h2
        go_wp2_with (first | (go_at_call 15; refine HAD.out.mono ?_; rintro e w6 ⟨⟨u, rfl⟩, hg, hf, _⟩; have HG6 := Aside0.mk hg; have HF6 := Aside0.mk hf; clear hg hf))
        go_roundw
        case rel => exact ⟨k + 1, by omega, by go_num, ⟨by have h := HF6.out; rw [List.append_assoc (a ++ b)] at h; exact h⟩, ⟨HB.out.trans (gb_to HG6.out HB.out.size (fun j e => by cases e; exact hgw))⟩⟩
        case measure => simp [intOf]; omega
      · obtain rfl : k = ps.length := by omega
        have HSM := Aside0.mk (fed_sum wr g _ HF.out (HCU.out.below HB.out) (by rw [List.length_append, List.length_append]; have := HT.out; omega))
        go_wp2_with fail
        refine HSM.out.mono ?_
        rintro e w7 ⟨rfl, hb⟩
        obtain ⟨dd, hd⟩ : ∃ dd, dd = hash (a ++ b ++ flat ps ps.length) := ⟨_, rfl⟩
        have hdl : dd.length = 32 := by rw [hd]; exact hash_len _
        have hdb : Bytes dd := by rw [hd]; exact hash_bytes _
        have HD := Aside0.mk hd
        rw [← hd]
        have HB7 := HB.out.trans (hb.mono HB.out.size)
        have hst := store32 (w7.alloc (.cells zero32 25)) w7.heap.size dd hdl (old := List.replicate 32 0) (blk_new w7 _) rfl
        have HST := Aside0.mk hst.1
        have HB8 := Aside0.mk (below_setRow (below_alloc HB7 (.cells zero32 25)) HB7.size (cellsB dd))
        have HX8 := Aside0.mk (txt_pre (l := dd) 32 32 (by rw [hdl]) (Nat.le_refl _) hst.2 (fun j hj => by rw [cellsB_get dd j hj]) (by omega) hdb)
        clear hst hb hd HSM hdb hdl HB7
        go_wp2_with (first | (refine store_whole (s := .tmp 10) rfl rfl rfl rfl HST.out ?_))
        go_ret
        exact ⟨w7.heap.size, rfl, by rw [HOE.out, ← HD.out]; exact HX8.out, HB8.out⟩
end Go.Proofs.YtjmgeelblodcgaaDoor.Sx
/- EsOb -/
namespace Go.Proofs.YtjmgeelblodcgaaDoor.Sx
open Go.RowKit Go.Proofs.YtjmgeelblodcgaaDoorW.PrintWords Go.Proofs.YtjmgeelblodcgaaDoorW.PrintLast Go.Proofs.YtjmgeelblodcgaaDoorW.PrintMore Go.Proofs.YtjmgeelblodcgaaDoor.Sh Go.Proofs.YtjmgeelblodcgaaDoor.PLes
set_option linter.unusedVariables false
set_option linter.unusedSimpArgs false
set_option maxRecDepth 100000 in
set_option maxHeartbeats 4000000 in
theorem rderive_calls (w : World) (hrc : RCubes w) (A : Option Addr) (c : Nat) (a : List Int) (ha : Txt w (.slice A a.length c) a) (B : Option Addr) (d : Nat) (b : List Int) (hb : Txt w (.slice B b.length d) b) (C : Option Addr) (cp : Nat) (m : List Int) (hm : Txt w (.slice C m.length cp) m) (hal : a.length ≤ 1000) (hbl : b.length ≤ 1000) (hml : m.length ≤ 800000) :
    Calls Tryd.prog 25 #[.slice A a.length c, .slice B b.length d, .slice C m.length cp] w fun e w' => ∃ v, e = .returned v ∧ RB w' w.heap.size v (hash (ord a b ++ m)) ∧ Below w.heap.size w w' := by
  have HRC := Aside0.mk hrc
  have HA := Aside0.mk ha
  have HBT := Aside0.mk hb
  have HM := Aside0.mk hm
  have a_by : Bytes a := by obtain ⟨_, _, _, _, _, h, _⟩ := ha; exact h
  have b_by : Bytes b := by obtain ⟨_, _, _, _, _, h, _⟩ := hb; exact h
  have m_by : Bytes m := by obtain ⟨_, _, _, _, _, h, _⟩ := hm; exact h
  have HLS := Aside0.mk (weftlineref05_Less.calls (2 * b.length + 2) B d b A c a _ w (txt_C hb).1 (txt_C hb).2.2 (txt_C ha).1 (txt_C ha).2.2 (less_f (by omega)))
  have hsw := lexI_swap a b
  clear hrc ha hb hm
  by_cases hgt : 0 < lexI a b
  · have HOE := Aside0.mk (show ord a b = b ++ a by unfold ord; rw [if_pos hgt])
    have hd : decide (lexI b a < 0) = true := by simp; omega
    rw [hd] at HLS
    clear hsw hgt hd
    go_enter Tryd.func25, Tryd.ntmps25
    go_wp2_with fail
    refine HLS.out.mono ?_
    rintro e w1 ⟨rfl, hdr⟩
    have HB1 := Aside0.mk hdr.below
    clear hdr
    have HL1 := Aside0.mk (show (([] : List Int).length + b.length) * 1 ≤ 140737488355328 by simp; omega)
    have HL2 := Aside0.mk (show (b.length + a.length) * 1 ≤ 140737488355328 by omega)
    go_wp2_with (first | ((with_reducible refine gate_dst (N := 13) rfl ?_); refine Kd.R_lit (Kd.int .u8) (w0 := w) w.heap.size 5 ?hg (N := 13) ?hd (xs := ([] : List Int)) (inner := []) (ok := fun _ => True) (okp := fun _ => True) ?hr ?hp (fun _ hk => hk) trivial HB1.out HB1.out.size (by simp) ?_; (case hd => rfl); (case hg => rfl); (case hr => first | (go_simp; done) | (go_simp; rfl)); (case hp => exact (Reps.none _ _)); intro v2 w2 ho hb hg hn; have HO2 := Aside0.mk ho; have HB2 := Aside0.mk hb; clear ho hb hg hn; obtain ⟨A2, c2, rfl⟩ := Kd.R_slice HO2.out) | ((with_reducible refine gate_builtin (b := .append) (xs := #[.tmp 13, .tmp 14]) rfl ?_); at_builtin; refine Kd.R_append_rows (Kd.int .u8) (w0 := w) w.heap.size rfl (.tmp 13) (.tmp 14) 22 5 (.int .u8 0) 1 rfl Tryd.underlying22 info5 rfl (by decide) (by omega) (.slice A2 ([] : List Int).length c2) (([] : List Int)) b B b.length d (fun _ => True) (fun _ => False) rfl rfl ?aO ?aR (fun _ _ h => h) (fun _ h => h.elim) (fun _ _ => trivial) ?aB ?aS ?aL ?_; (case aO => exact HO2.out); (case aR => exact (txt_C (HBT.out.below HB2.out)).1); (case aB => exact HB2.out); (case aS => exact HB2.out.size); (case aL => exact HL1.out); intro v3 w3 ho hb hg hn; rw [List.nil_append] at ho; have HO3 := Aside0.mk ho; have HB3 := Aside0.mk hb; clear ho hb hg hn; obtain ⟨A3, c3, rfl⟩ := Kd.R_slice HO3.out) | ((with_reducible refine gate_builtin (b := .append) (xs := #[.tmp 15, .tmp 16]) rfl ?_); at_builtin; refine Kd.R_append_rows (Kd.int .u8) (w0 := w) w.heap.size rfl (.tmp 15) (.tmp 16) 22 5 (.int .u8 0) 1 rfl Tryd.underlying22 info5 rfl (by decide) (by omega) (.slice A3 b.length c3) (b) a A a.length c (fun _ => True) (fun _ => False) rfl rfl ?aO ?aR (fun _ _ h => h) (fun _ h => h.elim) (fun _ _ => trivial) ?aB ?aS ?aL ?_; (case aO => exact HO3.out); (case aR => exact (txt_C (HA.out.below HB3.out)).1); (case aB => exact HB3.out); (case aS => exact HB3.out.size); (case aL => exact HL2.out); intro v4 w4 ho hb hg hn; obtain ⟨X, hX⟩ : ∃ x, x = b ++ a := ⟨_, rfl⟩; rw [← hX] at ho; have HX := Aside0.mk hX; clear hX; have HL3 := Aside0.mk (show (X.length + m.length) * 1 ≤ 140737488355328 by rw [HX.out, List.length_append]; omega); have HO4 := Aside0.mk ho; have HB4 := Aside0.mk hb; clear ho hb hg hn; obtain ⟨A4, c4, rfl⟩ := Kd.R_slice HO4.out) | ((with_reducible refine gate_builtin (b := .append) (xs := #[.tmp 17, .tmp 18]) rfl ?_); at_builtin; refine Kd.R_append_rows (Kd.int .u8) (w0 := w) w.heap.size rfl (.tmp 17) (.tmp 18) 22 5 (.int .u8 0) 1 rfl Tryd.underlying22 info5 rfl (by decide) (by omega) (.slice A4 X.length c4) (X) m C m.length cp (fun _ => True) (fun _ => False) rfl rfl ?aO ?aR (fun _ _ h => h) (fun _ h => h.elim) (fun _ _ => trivial) ?aB ?aS ?aL ?_; (case aO => exact HO4.out); (case aR => exact (txt_C (HM.out.below HB4.out)).1); (case aB => exact HB4.out); (case aS => exact HB4.out.size); (case aL => exact HL3.out); intro v5 w5 ho hb hg hn; obtain ⟨Y, hY⟩ : ∃ x, x = X ++ m := ⟨_, rfl⟩; rw [← hY] at ho; have HY := Aside0.mk hY; clear hY; have HO5 := Aside0.mk ho; have HB5 := Aside0.mk hb; clear ho hb hg hn; obtain ⟨A5, c5, rfl⟩ := Kd.R_slice HO5.out))
    have hYl : Y.length ≤ 900000 := by rw [HY.out, HX.out, List.length_append, List.length_append]; omega
    have hYx : Txt w5 (.slice A5 Y.length c5) Y := Txt.of_RB HO5.out (by rw [HY.out, HX.out]; exact fun x hx => (List.mem_append.1 hx).elim (fun h => (List.mem_append.1 h).elim (b_by x) (a_by x)) (m_by x)) (by omega)
    refine (rsum_calls w5 (HRC.out.below HB5.out) A5 c5 Y hYx hYl).mono ?_
    rintro e w6 ⟨rfl, hb⟩
    have HB6 := Aside0.mk (HB5.out.trans (hb.mono HB5.out.size))
    clear hb hYx hYl
    go_wp2_with fail
    refine (rbytes_calls w6 (hash Y) (hash_len _)).mono ?_
    rintro e w7 ⟨v7, rfl, hv, hb⟩
    rw [HY.out, HX.out, ← HOE.out] at hv
    have HO7 := Aside0.mk (Kd.R_lower hv HB6.out.size)
    have HB7 := Aside0.mk (HB6.out.trans (hb.mono HB6.out.size))
    clear hv hb
    go_wp2_with fail
    go_ret
    exact ⟨_, rfl, HO7.out, HB7.out⟩
  · have HOE := Aside0.mk (show ord a b = a ++ b by unfold ord; rw [if_neg hgt])
    have hd : decide (lexI b a < 0) = false := by simp; omega
    rw [hd] at HLS
    clear hsw hgt hd
    go_enter Tryd.func25, Tryd.ntmps25
    go_wp2_with fail
    refine HLS.out.mono ?_
    rintro e w1 ⟨rfl, hdr⟩
    have HB1 := Aside0.mk hdr.below
    clear hdr
    have HL1 := Aside0.mk (show (([] : List Int).length + a.length) * 1 ≤ 140737488355328 by simp; omega)
    have HL2 := Aside0.mk (show (a.length + b.length) * 1 ≤ 140737488355328 by omega)
    go_wp2_with (first | ((with_reducible refine gate_dst (N := 13) rfl ?_); refine Kd.R_lit (Kd.int .u8) (w0 := w) w.heap.size 5 ?hg (N := 13) ?hd (xs := ([] : List Int)) (inner := []) (ok := fun _ => True) (okp := fun _ => True) ?hr ?hp (fun _ hk => hk) trivial HB1.out HB1.out.size (by simp) ?_; (case hd => rfl); (case hg => rfl); (case hr => first | (go_simp; done) | (go_simp; rfl)); (case hp => exact (Reps.none _ _)); intro v2 w2 ho hb hg hn; have HO2 := Aside0.mk ho; have HB2 := Aside0.mk hb; clear ho hb hg hn; obtain ⟨A2, c2, rfl⟩ := Kd.R_slice HO2.out) | ((with_reducible refine gate_builtin (b := .append) (xs := #[.tmp 13, .tmp 14]) rfl ?_); at_builtin; refine Kd.R_append_rows (Kd.int .u8) (w0 := w) w.heap.size rfl (.tmp 13) (.tmp 14) 22 5 (.int .u8 0) 1 rfl Tryd.underlying22 info5 rfl (by decide) (by omega) (.slice A2 ([] : List Int).length c2) (([] : List Int)) a A a.length c (fun _ => True) (fun _ => False) rfl rfl ?aO ?aR (fun _ _ h => h) (fun _ h => h.elim) (fun _ _ => trivial) ?aB ?aS ?aL ?_; (case aO => exact HO2.out); (case aR => exact (txt_C (HA.out.below HB2.out)).1); (case aB => exact HB2.out); (case aS => exact HB2.out.size); (case aL => exact HL1.out); intro v3 w3 ho hb hg hn; rw [List.nil_append] at ho; have HO3 := Aside0.mk ho; have HB3 := Aside0.mk hb; clear ho hb hg hn; obtain ⟨A3, c3, rfl⟩ := Kd.R_slice HO3.out) | ((with_reducible refine gate_builtin (b := .append) (xs := #[.tmp 15, .tmp 16]) rfl ?_); at_builtin; refine Kd.R_append_rows (Kd.int .u8) (w0 := w) w.heap.size rfl (.tmp 15) (.tmp 16) 22 5 (.int .u8 0) 1 rfl Tryd.underlying22 info5 rfl (by decide) (by omega) (.slice A3 a.length c3) (a) b B b.length d (fun _ => True) (fun _ => False) rfl rfl ?aO ?aR (fun _ _ h => h) (fun _ h => h.elim) (fun _ _ => trivial) ?aB ?aS ?aL ?_; (case aO => exact HO3.out); (case aR => exact (txt_C (HBT.out.below HB3.out)).1); (case aB => exact HB3.out); (case aS => exact HB3.out.size); (case aL => exact HL2.out); intro v4 w4 ho hb hg hn; obtain ⟨X, hX⟩ : ∃ x, x = a ++ b := ⟨_, rfl⟩; rw [← hX] at ho; have HX := Aside0.mk hX; clear hX; have HL3 := Aside0.mk (show (X.length + m.length) * 1 ≤ 140737488355328 by rw [HX.out, List.length_append]; omega); have HO4 := Aside0.mk ho; have HB4 := Aside0.mk hb; clear ho hb hg hn; obtain ⟨A4, c4, rfl⟩ := Kd.R_slice HO4.out) | ((with_reducible refine gate_builtin (b := .append) (xs := #[.tmp 17, .tmp 18]) rfl ?_); at_builtin; refine Kd.R_append_rows (Kd.int .u8) (w0 := w) w.heap.size rfl (.tmp 17) (.tmp 18) 22 5 (.int .u8 0) 1 rfl Tryd.underlying22 info5 rfl (by decide) (by omega) (.slice A4 X.length c4) (X) m C m.length cp (fun _ => True) (fun _ => False) rfl rfl ?aO ?aR (fun _ _ h => h) (fun _ h => h.elim) (fun _ _ => trivial) ?aB ?aS ?aL ?_; (case aO => exact HO4.out); (case aR => exact (txt_C (HM.out.below HB4.out)).1); (case aB => exact HB4.out); (case aS => exact HB4.out.size); (case aL => exact HL3.out); intro v5 w5 ho hb hg hn; obtain ⟨Y, hY⟩ : ∃ x, x = X ++ m := ⟨_, rfl⟩; rw [← hY] at ho; have HY := Aside0.mk hY; clear hY; have HO5 := Aside0.mk ho; have HB5 := Aside0.mk hb; clear ho hb hg hn; obtain ⟨A5, c5, rfl⟩ := Kd.R_slice HO5.out))
    have hYl : Y.length ≤ 900000 := by rw [HY.out, HX.out, List.length_append, List.length_append]; omega
    have hYx : Txt w5 (.slice A5 Y.length c5) Y := Txt.of_RB HO5.out (by rw [HY.out, HX.out]; exact fun x hx => (List.mem_append.1 hx).elim (fun h => (List.mem_append.1 h).elim (a_by x) (b_by x)) (m_by x)) (by omega)
    refine (rsum_calls w5 (HRC.out.below HB5.out) A5 c5 Y hYx hYl).mono ?_
    rintro e w6 ⟨rfl, hb⟩
    have HB6 := Aside0.mk (HB5.out.trans (hb.mono HB5.out.size))
    clear hb hYx hYl
    go_wp2_with fail
    refine (rbytes_calls w6 (hash Y) (hash_len _)).mono ?_
    rintro e w7 ⟨v7, rfl, hv, hb⟩
    rw [HY.out, HX.out, ← HOE.out] at hv
    have HO7 := Aside0.mk (Kd.R_lower hv HB6.out.size)
    have HB7 := Aside0.mk (HB6.out.trans (hb.mono HB6.out.size))
    clear hv hb
    go_wp2_with fail
    go_ret
    exact ⟨_, rfl, HO7.out, HB7.out⟩
end Go.Proofs.YtjmgeelblodcgaaDoor.Sx
/- EsQb -/
namespace Go.Proofs.YtjmgeelblodcgaaDoor.Sx
open Go.RowKit Go.Proofs.YtjmgeelblodcgaaDoorW.PrintWords Go.Proofs.YtjmgeelblodcgaaDoorW.PrintLast Go.Proofs.YtjmgeelblodcgaaDoorW.PrintMore Go.Proofs.YtjmgeelblodcgaaDoor.Sh
set_option linter.unusedVariables false
set_option linter.unusedSimpArgs false
set_option maxRecDepth 100000 in
set_option maxHeartbeats 4000000 in
theorem macDerives_main (w : World) (hrc : RCubes w) (hr : Roots w) (hcu : Cubes w) (A0 : Option Addr) (c0 : Nat) (l0 : List Int) (hk0 : l0.length ≤ c0) (hK0 : Kd.C (Kd.int .u8) w A0 l0.length l0) (hy0 : Bytes l0) (A1 : Option Addr) (c1 : Nat) (l1 : List Int) (hk1 : l1.length ≤ c1) (hK1 : Kd.C (Kd.int .u8) w A1 l1.length l1) (hy1 : Bytes l1) (B : Option Addr) (cp : Nat) (ps : List (List Int)) (hC : Kd.C (Kd.slice 5 (Kd.int .u8)) w B ps.length ps) (hby : ∀ k, Bytes (prt ps k)) :
    Calls Tryd.prog 10 #[.slice A0 l0.length c0, .slice A1 l1.length c1, .slice B ps.length cp] w (Yes w) := by
  have HRC := Aside0.mk hrc
  have HR := Aside0.mk hr
  have HCU := Aside0.mk hcu
  have HC := Aside0.mk hC
  have HBY := Aside0.mk hby
  have HK0 := Aside0.mk hK0
  have HK1 := Aside0.mk hK1
  have HC0 := Aside0.mk hk0
  have HC1 := Aside0.mk hk1
  have hps : ps.length ≤ 9223372036854775807 := hC.2.1
  clear hrc hr hcu hC hby hK0 hK1 hk0 hk1
  go_enter Tryd.func10, Tryd.ntmps10
  go_wp2_with fail
  refine (alive5_calls w HR.out HCU.out).mono ?_
  rintro e w1 ⟨rfl, hb⟩
  have HB1 := Aside0.mk hb
  clear hb
  go_wp2_with (first | ((with_reducible refine gate_dst (N := 13) rfl ?_); refine Kd.R_lit (Kd.int .u8) (w0 := w) w.heap.size 5 ?hg (N := 13) ?hd (xs := ([] : List Int)) (inner := []) (ok := fun _ => True) (okp := fun _ => True) ?hr ?hp (fun _ hk => hk) trivial HB1.out HB1.out.size (by simp) ?_; (case hd => rfl); (case hg => rfl); (case hr => first | (go_simp; done) | (go_simp; rfl)); (case hp => exact (Reps.none _ _)); intro v1 w2 ho hb hg hn; have HO2 := Aside0.mk ho; have HB2 := Aside0.mk hb; clear ho hb hg hn; obtain ⟨A2, c2, rfl⟩ := Kd.R_slice HO2.out))
  have HS0 := Aside0.mk (⟨HO2.out, HB2.out, fun j hj => by omega⟩ : Mtd w ps 200 0 (.slice A2 ([] : List Int).length c2) w2)
  clear HB2 HO2 HB1
  go_loopw [7, 16] (fun v i wr => ∃ (k : Nat) (A : Option Addr) (c : Nat), k ≤ ps.length ∧ k ≤ 11 ∧ i = .int .i64 k ∧ v = .slice A (flat ps k).length c ∧ Aside0 (Mtd w ps 200 k v wr)) (fun _ i _ => ps.length - (intOf i).toNat)
  case atStart => exact ⟨0, A2, c2, Nat.zero_le _, by decide, rfl, rfl, HS0⟩
  case round =>
    obtain ⟨k, A7, c7, hk, hk11, rfl, rfl, HS⟩ := hrel
    by_cases hlt : k < ps.length
    · obtain ⟨ad, A', c2, hA, hcell, hc2, hCp⟩ := part_at HC.out k hlt
      subst hA
      have hcell2 := pw_cell_below HS.out.bel hcell
      have HCP := Aside0.mk hCp
      clear hcell hCp
      by_cases h20 : 10 < k
      · have n1 : decide ((10 : Int) < (k : Int)) = true := by simp; omega
        go_wp2_with fail
        go_ret
        exact ⟨rfl, HS.out.bel⟩
      · have n1 : decide ((10 : Int) < (k : Int)) = false := by simp; omega
        by_cases h300 : 200 < (prt ps k).length
        · have n2 : decide ((200 : Int) < ((prt ps k).length : Int)) = true := by simp; omega
          go_wp2_with fail
          go_ret
          exact ⟨rfl, HS.out.bel⟩
        · have n2 : decide ((200 : Int) < ((prt ps k).length : Int)) = false := by simp; omega
          have hfl := HS.out.lenle (by omega) (by decide)
          have HL1 := Aside0.mk (show ((flat ps k).length + (prt ps k).length) * 1 ≤ 140737488355328 by omega)
          clear hfl
          go_wp2_with (first | (at_builtin; refine Kd.R_append_rows (Kd.int .u8) (w0 := w) w.heap.size rfl (.tmp 28) (.tmp 29) 22 5 (.int .u8 0) 1 rfl Tryd.underlying22 info5 rfl (by decide) (by omega) (.slice A7 (flat ps k).length c7) (flat ps k) (prt ps k) A' (prt ps k).length c2 (fun _ => True) (fun _ => False) rfl rfl ?aO ?aR (fun _ _ h => h) (fun _ h => h.elim) (fun _ _ => trivial) ?aB ?aS ?aL ?_; (case aO => exact HS.out.row); (case aR => exact Kd.C_below HCP.out HS.out.bel); (case aB => exact HS.out.bel); (case aS => exact HS.out.bel.size); (case aL => exact HL1.out); intro v4 w4 ho hb hg hn; have HO4 := Aside0.mk ho; have HB4 := Aside0.mk hb; clear ho hb hg hn; obtain ⟨A4, c4, rfl⟩ := Kd.R_slice HO4.out))
          have HS4 := Aside0.mk (⟨HO4.out, HB4.out, fun j hj => by
            by_cases h : j < k
            · exact HS.out.len j h
            · have : j = k := by omega
              subst this
              omega⟩ : Mtd w ps 200 (k + 1) (.slice A4 (flat ps k ++ prt ps k).length c4) w4)
          go_roundw
          case rel => exact ⟨k + 1, A4, c4, by omega, by omega, by go_num, by show _ = Value.slice A4 (flat ps k ++ prt ps k).length c4; rw [List.length_append], by rw [List.length_append] at HS4; exact HS4⟩
          case measure => simp [intOf]; omega
    · obtain rfl : k = ps.length := by omega
      have hlen := HS.out.lenle (by omega) (by decide)
      have HL := Aside0.mk hlen
      clear hlen
      by_cases h0 : 200 < l0.length
      · have n3 : decide ((200 : Int) < (l0.length : Int)) = true := by simp; omega
        go_wp2_with fail
        go_ret
        exact ⟨rfl, HS.out.bel⟩
      have n3 : decide ((200 : Int) < (l0.length : Int)) = false := by simp; omega
      by_cases h1 : 200 < l1.length
      · have n4 : decide ((200 : Int) < (l1.length : Int)) = true := by simp; omega
        go_wp2_with fail
        go_ret
        exact ⟨rfl, HS.out.bel⟩
      · have n4 : decide ((200 : Int) < (l1.length : Int)) = false := by simp; omega
        have T0 := Aside0.mk (show Txt w (.slice A0 l0.length c0) l0 from ⟨A0, c0, rfl, HC0.out, HK0.out, hy0, by omega⟩)
        have T1 := Aside0.mk (show Txt w (.slice A1 l1.length c1) l1 from ⟨A1, c1, rfl, HC1.out, HK1.out, hy1, by omega⟩)
        have hps11 : ps.length ≤ 1000 := by omega
        have HPT := Aside0.mk (parts_of HC.out HBY.out HS.out.len (by decide) (Below.refl w.heap.size w))
        obtain ⟨al, hal⟩ : ∃ x, x = flat ps ps.length := ⟨_, rfl⟩
        have hb9 := HS.out.bel
        have hTA := Txt.of_RB HS.out.row (flat_bytes ps HBY.out _) (by have := HL.out; omega)
        have HDE := Aside0.mk (derive_calls wr (HR.out.below hb9) (HCU.out.below hb9) A0 c0 l0 (T0.out.below hb9) A1 c1 l1 (T1.out.below hb9) B ps ps.length cp rfl hps11 (HPT.out.below hb9) (by omega) (by omega) (by have := HL.out; omega))
        rw [← hal] at hTA HDE HL ⊢
        have HTA := Aside0.mk hTA
        have HBR := Aside0.mk hb9
        clear hTA hb9 hps11 HS hal
        go_wp2_with fail
        refine HDE.out.mono ?_
        rintro e W9 ⟨D, rfl, ht9, hb9⟩
        obtain ⟨dd, hdd⟩ : ∃ dd, dd = hash (ord l0 l1 ++ al) := ⟨_, rfl⟩
        rw [← hdd] at ht9
        have HDL := Aside0.mk (show dd.length = 32 by rw [hdd]; exact hash_len _)
        have HDB := Aside0.mk (show Bytes dd by rw [hdd]; exact hash_bytes _)
        have HB9 := Aside0.mk (HBR.out.trans (hb9.mono HBR.out.size))
        have HTA9 := Aside0.mk (HTA.out.below hb9)
        have HX9 := Aside0.mk ht9
        have HF := Aside0.mk (show ∀ w', Below W9.heap.size W9 w' → (convert 22 9 (.slice (some ⟨D, 0, none⟩) 32 32)).run Tryd.prog w' = .ok (.string (strOfNums dd)) w' from fun w' hB => txt_str (HX9.out.below hB))
        have HC25 := Aside0.mk (show Calls Tryd.prog 25 #[.slice A0 l0.length c0, .slice A1 l1.length c1, .slice A7 al.length c7] W9.drew (fun e w' => ∃ v, e = .returned v ∧ RB w' W9.heap.size v dd ∧ Below W9.heap.size W9.drew w') from by
          have hB := below_drew1 (Below.refl W9.heap.size W9)
          have hw := HB9.out.trans (hB.mono HB9.out.size)
          rw [hdd]
          exact rderive_calls W9.drew (HRC.out.below hw) A0 c0 l0 (T0.out.below hw) A1 c1 l1 (T1.out.below hw) A7 c7 al (HTA9.out.below hB) (by omega) (by omega) (by have := HL.out; omega))
        have HC24 := Aside0.mk (show ∀ w', Below W9.heap.size W9 w' → Calls Tryd.prog 24 #[.slice A1 l1.length c1, .slice A0 l0.length c0, .slice (some ⟨w'.heap.size, 0, none⟩) 1 1] (w'.alloc (.cells #[.slice A7 al.length c7] 22)) (fun e w2 => ∃ D2, e = .returned (.slice (some ⟨D2, 0, none⟩) 32 32) ∧ Txt w2 (.slice (some ⟨D2, 0, none⟩) 32 32) dd ∧ Below w'.heap.size w' w2) from fun w' hB => by
          have hA := below_alloc (Below.refl w'.heap.size w') (.cells #[.slice A7 al.length c7] 22)
          have hw := (HB9.out.trans (hB.mono HB9.out.size)).trans (hA.mono (Nat.le_trans HB9.out.size hB.size))
          have hp := PartsOf.blk (vs := [.slice A7 al.length c7]) (ps := [al]) rfl (blk_new w' (.cells #[.slice A7 al.length c7] 22)) (fun k hk => by
            have : k = 0 := by simp at hk; omega
            subst this
            exact (HTA9.out.below hB).below hA)
          have hf : flat [al] [al].length = al := rfl
          refine (derive_calls _ (HR.out.below hw) (HCU.out.below hw) A1 c1 l1 (T1.out.below hw) A0 c0 l0 (T0.out.below hw) (some ⟨w'.heap.size, 0, none⟩) [al] 1 1 rfl (by simp) hp (by omega) (by omega) (by rw [hf]; have := HL.out; omega)).mono ?_
          rintro e w2 ⟨D2, rfl, ht, hb⟩
          rw [hf, ord_swap, ← hdd] at ht
          exact ⟨D2, rfl, ht, hA.trans (hb.mono hA.size)⟩)
        clear hdd ht9 hb9 HDE
        go_wp2_with fail
        refine start_ (n := 20) (S := fun w' => Below W9.heap.size W9 w' ∧ (convert 22 9 (.slice (some ⟨D, 0, none⟩) 32 32)).run Tryd.prog w' = .ok (.string (strOfNums dd)) w') (ds := []) #[false, false, false, false, false, false, false, false, false, false, false, false, false, false, false, false, false, false, false, false] (by kernel_rfl) rfl rfl ⟨below_drew1 (Below.refl _ _), HF.out _ (below_drew1 (Below.refl _ _))⟩ (fun hHeld => ?_)
        refine pure_ (i := 0) (N := some 44) (v := ?_) (a' := ?_) #[true, false, false, false, false, false, false, false, false, false, false, false, false, false, false, false, false, false, false, false] rfl rfl (by kernel_rfl) (fun _ _ _ h => h) (Or.inl ⟨by rfl, ?_⟩) ?_ ?_
        rotate_left
        · intro w'
          go_simp
          with_reducible rfl
        rotate_left
        · simp only [Act.put, List.setIfInBounds_toArray, List.set_cons_zero, List.set_cons_succ, i64_w, i32_w]
          rfl
        refine pure_ (i := 2) (N := some 46) (v := ?_) (a' := ?_) #[true, false, true, false, false, false, false, false, false, false, false, false, false, false, false, false, false, false, false, false] rfl rfl (by kernel_rfl) (fun _ _ _ h => h) (Or.inl ⟨by rfl, ?_⟩) ?_ ?_
        rotate_left
        · intro w'
          go_simp
          with_reducible rfl
        rotate_left
        · simp only [Act.put, List.setIfInBounds_toArray, List.set_cons_zero, List.set_cons_succ, i64_w, i32_w]
          rfl
        refine pure_ (i := 3) (N := some 47) (v := ?_) (a' := ?_) #[true, false, true, true, false, false, false, false, false, false, false, false, false, false, false, false, false, false, false, false] rfl rfl (by kernel_rfl) (fun _ _ _ h => h) (Or.inl ⟨by rfl, ?_⟩) ?_ ?_
        rotate_left
        · intro w'
          go_simp
          with_reducible rfl
        rotate_left
        · simp only [Act.put, List.setIfInBounds_toArray, List.set_cons_zero, List.set_cons_succ, i64_w, i32_w]
          rfl
        refine pure_ (i := 4) (N := some 48) (v := ?_) (a' := ?_) #[true, false, true, true, true, false, false, false, false, false, false, false, false, false, false, false, false, false, false, false] rfl rfl (by kernel_rfl) (fun _ _ _ h => h) (Or.inl ⟨by rfl, ?_⟩) ?_ ?_
        rotate_left
        · intro w'
          go_simp
          with_reducible rfl
        rotate_left
        · simp only [Act.put, List.setIfInBounds_toArray, List.set_cons_zero, List.set_cons_succ, i64_w, i32_w]
          rfl
        refine take_ (i := 1) (N := some 45) (v := ?_) (a' := ?_) #[true, true, true, true, true, false, false, false, false, false, false, false, false, false, false, false, false, false, false, false] rfl rfl (by kernel_rfl) (fun _ _ _ h => h) (Or.inl ⟨by rfl, ?_⟩) hHeld ?_ ?_
        rotate_left
        · rintro w' ⟨s0, s1⟩
          go_simp
          with_reducible rfl
        rotate_left
        · simp only [Act.put, List.setIfInBounds_toArray, List.set_cons_zero, List.set_cons_succ, i64_w, i32_w]
          rfl
        refine one_ (i := 5) (N := some 49) #[true, true, true, true, true, true, false, false, false, false, false, false, false, false, false, false, false, false, false, false] rfl rfl (by kernel_rfl) (by decide) (fun K hK => ?_)
        refine goes_ Tryd.func25 (by kernel_rfl) rfl #[.slice A0 l0.length c0, .slice A1 l1.length c1, .slice A7 al.length c7] (by rfl) rfl rfl (by first | rfl | (simp only [List.map_toArray, List.map_cons, List.map_nil]; rfl)) ?_
        with_reducible refine (HC25.out).mono ?_
        rintro e w20 ⟨v20, rfl, hv20, hb20⟩
        have hB20 : Below W9.heap.size W9 w20 := (below_drew1 (Below.refl W9.heap.size W9)).trans hb20
        obtain ⟨A20, c20, rfl⟩ := Kd.R_slice hv20
        have hS20 := txt_str (Txt.of_RB hv20 HDB.out (by rw [HDL.out]; decide))
        refine ⟨_, rfl, ?_⟩
        refine hK.out _ _ ⟨hB20, HF.out _ (hB20)⟩ (fun hHeld => ?_)
        clear hK K
        refine norm_ (a' := ?_) ?_ ?_
        rotate_left
        · show Act.put _ (some 49) _ = _
          simp only [Act.put, List.setIfInBounds_toArray, List.set_cons_zero, List.set_cons_succ, i64_w, i32_w]
          rfl
        refine one_ (i := 6) (N := some 50) #[true, true, true, true, true, true, true, false, false, false, false, false, false, false, false, false, false, false, false, false] rfl rfl (by kernel_rfl) (by decide) (fun K hK => ?_)
        refine value_ (v := .string (strOfNums dd)) (by rfl) rfl (conv_run rfl rfl hS20) ?_
        refine hK.out _ _ ⟨hB20, HF.out _ (hB20)⟩ (fun hHeld => ?_)
        clear hK K
        refine norm_ (a' := ?_) ?_ ?_
        rotate_left
        · show Act.put _ (some 50) _ = _
          simp only [Act.put, List.setIfInBounds_toArray, List.set_cons_zero, List.set_cons_succ, i64_w, i32_w]
          rfl
        refine pure_ (i := 7) (N := some 51) (v := ?_) (a' := ?_) #[true, true, true, true, true, true, true, true, false, false, false, false, false, false, false, false, false, false, false, false] rfl rfl (by kernel_rfl) (fun _ _ _ h => h) (Or.inl ⟨by rfl, ?_⟩) ?_ ?_
        rotate_left
        · intro w'
          go_simp
          with_reducible rfl
        rotate_left
        · simp only [Act.put, List.setIfInBounds_toArray, List.set_cons_zero, List.set_cons_succ, i64_w, i32_w]
          rfl
        refine pure_ (i := 8) (N := some 52) (v := ?_) (a' := ?_) #[true, true, true, true, true, true, true, true, true, false, false, false, false, false, false, false, false, false, false, false] rfl rfl (by kernel_rfl) (fun _ _ _ h => h) (Or.inl ⟨by rfl, ?_⟩) ?_ ?_
        rotate_left
        · intro w'
          go_simp
          with_reducible rfl
        rotate_left
        · simp only [Act.put, List.setIfInBounds_toArray, List.set_cons_zero, List.set_cons_succ, i64_w, i32_w]
          rfl
        refine pure_ (i := 9) (N := some 53) (v := ?_) (a' := ?_) #[true, true, true, true, true, true, true, true, true, true, false, false, false, false, false, false, false, false, false, false] rfl rfl (by kernel_rfl) (fun _ _ _ h => h) (Or.inl ⟨by rfl, ?_⟩) ?_ ?_
        rotate_left
        · intro w'
          go_simp
          with_reducible rfl
        rotate_left
        · simp only [Act.put, List.setIfInBounds_toArray, List.set_cons_zero, List.set_cons_succ, i64_w, i32_w]
          rfl
        refine pure_ (i := 11) (N := some 55) (v := ?_) (a' := ?_) #[true, true, true, true, true, true, true, true, true, true, false, true, false, false, false, false, false, false, false, false] rfl rfl (by kernel_rfl) (fun _ _ _ h => h) (Or.inl ⟨by rfl, ?_⟩) ?_ ?_
        rotate_left
        · intro w'
          go_simp
          with_reducible rfl
        rotate_left
        · simp only [Act.put, List.setIfInBounds_toArray, List.set_cons_zero, List.set_cons_succ, i64_w, i32_w]
          rfl
        refine pure_ (i := 12) (N := some 56) (v := ?_) (a' := ?_) #[true, true, true, true, true, true, true, true, true, true, false, true, true, false, false, false, false, false, false, false] rfl rfl (by kernel_rfl) (fun _ _ _ h => h) (Or.inl ⟨by rfl, ?_⟩) ?_ ?_
        rotate_left
        · intro w'
          go_simp
          with_reducible rfl
        rotate_left
        · simp only [Act.put, List.setIfInBounds_toArray, List.set_cons_zero, List.set_cons_succ, i64_w, i32_w]
          rfl
        refine pure_ (i := 13) (N := some 57) (v := ?_) (a' := ?_) #[true, true, true, true, true, true, true, true, true, true, false, true, true, true, false, false, false, false, false, false] rfl rfl (by kernel_rfl) (fun _ _ _ h => h) (Or.inl ⟨by rfl, ?_⟩) ?_ ?_
        rotate_left
        · intro w'
          go_simp
          with_reducible rfl
        rotate_left
        · simp only [Act.put, List.setIfInBounds_toArray, List.set_cons_zero, List.set_cons_succ, i64_w, i32_w]
          rfl
        refine take_ (i := 10) (N := some 54) (v := ?_) (a' := ?_) #[true, true, true, true, true, true, true, true, true, true, true, true, true, true, false, false, false, false, false, false] rfl rfl (by kernel_rfl) (fun _ _ _ h => h) (Or.inl ⟨by rfl, ?_⟩) hHeld ?_ ?_
        rotate_left
        · rintro w' ⟨s0, s1⟩
          go_simp
          with_reducible rfl
        rotate_left
        · simp only [Act.put, List.setIfInBounds_toArray, List.set_cons_zero, List.set_cons_succ, i64_w, i32_w]
          rfl
        refine one_ (i := 14) (N := some 58) #[true, true, true, true, true, true, true, true, true, true, true, true, true, true, true, false, false, false, false, false] rfl rfl (by kernel_rfl) (by decide) (fun K hK => ?_)
        refine value_ (w1 := ?_) (v := ?_) (by rfl) rfl ?_ ?_
        rotate_left 2
        · go_simp
          constructor
          · rfl
          · rfl
        refine hK.out _ _ ⟨below_alloc hHeld.1 _, HF.out _ (below_alloc hHeld.1 _)⟩ (fun hHeld => ?_)
        clear hK K
        refine norm_ (a' := ?_) ?_ ?_
        rotate_left
        · show Act.put _ (some 58) _ = _
          simp only [Act.put, List.setIfInBounds_toArray, List.set_cons_zero, List.set_cons_succ, i64_w, i32_w]
          rfl
        refine one_ (i := 15) (N := some 59) #[true, true, true, true, true, true, true, true, true, true, true, true, true, true, true, true, false, false, false, false] rfl rfl (by kernel_rfl) (by decide) (fun K hK => ?_)
        refine goes_ Tryd.func24 (by kernel_rfl) rfl #[.slice A1 l1.length c1, .slice A0 l0.length c0, .slice (some ⟨w20.heap.size, 0, none⟩) 1 1] (by rfl) rfl rfl (by first | rfl | (simp only [List.map_toArray, List.map_cons, List.map_nil]; rfl)) ?_
        with_reducible refine (HC24.out _ hB20).mono ?_
        rintro e w21 ⟨D2, rfl, ht21, hb21⟩
        have hB21 : Below W9.heap.size W9 w21 := hB20.trans (hb21.mono hB20.size)
        have hS21 := txt_str ht21
        refine ⟨_, rfl, ?_⟩
        refine hK.out _ _ ⟨hB21, HF.out _ (hB21)⟩ (fun hHeld => ?_)
        clear hK K
        refine norm_ (a' := ?_) ?_ ?_
        rotate_left
        · show Act.put _ (some 59) _ = _
          simp only [Act.put, List.setIfInBounds_toArray, List.set_cons_zero, List.set_cons_succ, i64_w, i32_w]
          rfl
        refine one_ (i := 16) (N := some 60) #[true, true, true, true, true, true, true, true, true, true, true, true, true, true, true, true, true, false, false, false] rfl rfl (by kernel_rfl) (by decide) (fun K hK => ?_)
        refine value_ (v := .string (strOfNums dd)) (by rfl) rfl (conv_run rfl rfl hS21) ?_
        refine hK.out _ _ ⟨hB21, HF.out _ (hB21)⟩ (fun hHeld => ?_)
        clear hK K
        refine norm_ (a' := ?_) ?_ ?_
        rotate_left
        · show Act.put _ (some 60) _ = _
          simp only [Act.put, List.setIfInBounds_toArray, List.set_cons_zero, List.set_cons_succ, i64_w, i32_w]
          rfl
        refine pure_ (i := 17) (N := some 61) (v := ?_) (a' := ?_) #[true, true, true, true, true, true, true, true, true, true, true, true, true, true, true, true, true, true, false, false] rfl rfl (by kernel_rfl) (fun _ _ _ h => h) (Or.inl ⟨by rfl, ?_⟩) ?_ ?_
        rotate_left
        · intro w'
          go_simp
          with_reducible rfl
        rotate_left
        · simp only [Act.put, List.setIfInBounds_toArray, List.set_cons_zero, List.set_cons_succ, i64_w, i32_w]
          rfl
        refine pure_ (i := 18) (N := some 62) (v := ?_) (a' := ?_) #[true, true, true, true, true, true, true, true, true, true, true, true, true, true, true, true, true, true, true, false] rfl rfl (by kernel_rfl) (fun _ _ _ h => h) (Or.inl ⟨by rfl, ?_⟩) ?_ ?_
        rotate_left
        · intro w'
          go_simp
          with_reducible rfl
        rotate_left
        · simp only [Act.put, List.setIfInBounds_toArray, List.set_cons_zero, List.set_cons_succ, i64_w, i32_w]
          rfl
        refine pure_ (i := 19) (N := some 6) (v := ?_) (a' := ?_) #[true, true, true, true, true, true, true, true, true, true, true, true, true, true, true, true, true, true, true, true] rfl rfl (by kernel_rfl) (fun _ _ _ h => h) (Or.inl ⟨by rfl, ?_⟩) ?_ ?_
        rotate_left
        · intro w'
          go_simp
          with_reducible rfl
        rotate_left
        · simp only [Act.put, List.setIfInBounds_toArray, List.set_cons_zero, List.set_cons_succ, i64_w, i32_w]
          rfl
        refine done_ (by kernel_rfl) ?_
        go_wp2_with fail
        go_ret
        exact ⟨rfl, HB9.out.trans (hHeld.1.mono HB9.out.size)⟩
theorem macDerives_walk (W : World) (A0 : Option Addr) (c0 : Nat) (l0 : (List Int)) (A1 : Option Addr) (c1 : Nat) (l1 : (List Int)) (A2 : Option Addr) (c2 : Nat) (l2 : (List (List Int))) (hc0 : l0.length ≤ c0) (hr0 : Kd.C (Kd.int .u8) W A0 l0.length l0) (w0 : (∀ zl0 ∈ l0, (Lit.int .u8 zl0).wf = true)) (hc1 : l1.length ≤ c1) (hr1 : Kd.C (Kd.int .u8) W A1 l1.length l1) (w1 : (∀ zl1 ∈ l1, (Lit.int .u8 zl1).wf = true)) (hc2 : l2.length ≤ c2) (hr2 : Kd.C (Kd.slice 5 (Kd.int .u8)) W A2 l2.length l2) (w2 : (∀ zl2 ∈ l2, (∀ zzl2 ∈ zl2, (Lit.int .u8 zzl2).wf = true))) (hL : laidMetH Tryd.prog [("weftline/weftlineref04.cube", Rows.laid_weftline_weftlineref04_cube), ("weftline/sha.roots", Rows.laid_weftline_sha_roots), ("weftline/sha.cubes", Rows.laid_weftline_sha_cubes)] W) :
    Calls Tryd.prog 10 #[.slice A0 l0.length c0, .slice A1 l1.length c1, .slice A2 l2.length c2] W fun e w' => e = .returned (.bool true) ∧ Below W.heap.size W w' := by
  obtain ⟨hrc, hr, hcu⟩ := tabs3_of hL
  exact macDerives_main W hrc hr hcu A0 c0 l0 hc0 hr0 (bytes_of_wf w0) A1 c1 l1 hc1 hr1 (bytes_of_wf w1) A2 c2 l2 hr2 (prt_bytes (fun p hp => bytes_of_wf (w2 p hp)))
end Go.Proofs.YtjmgeelblodcgaaDoor.Sx
/- Opn -/
namespace Go.Proofs.YtjmgeelblodcgaaDoor.Opn
open Go.RowKit Go.Deep Go.WideShapes Go.ChangeShapes Go.Proofs.YtjmgeelblodcgaaDoorW.PrintWords
set_option linter.unusedVariables false
/-- What reads at type T is told by the kind d, and fits wf. -/
def Opn (P : Program) (w : World) (T : TypeId) {α : Type} (d : Kd α) (wf : α → Prop) : Prop :=
  ∀ {H : Type} {enc : TypeId × Value → H} {base : Nat} {spare : Nat → Bool} {held : Bool} {fuel : Nat} {cs : List Value} {y : DataW H × List MemPlace},
    DataW.trod enc P w base spare held fuel T cs = some y → ∃ x, d.K w x cs ∧ wf x

section
variable {P : Program} {w : World} {T e : TypeId} {α β : Type}
theorem int {k : IntKind} (hu : P.underlying T = some (.int k)) : Opn P w T (Kd.int k) (fun x => (Lit.int k x).wf = true) := by
  intro H enc base spare held fuel cs y h
  obtain ⟨n, rfl, _, wn⟩ := DataW.trod_int hu h
  exact ⟨n, rfl, wn⟩
theorem bool (hu : P.underlying T = some .bool) : Opn P w T Kd.bool (fun _ => True) := by
  intro H enc base spare held fuel cs y h
  obtain ⟨n, rfl, _⟩ := DataW.trod_bool hu h
  exact ⟨n, rfl, trivial⟩
theorem string (hu : P.underlying T = some .string) : Opn P w T Kd.string (fun s => s.size ≤ maxLen) := by
  intro H enc base spare held fuel cs y h
  obtain ⟨n, rfl, _, hs⟩ := DataW.trod_string hu h
  exact ⟨n, rfl, hs⟩

theorem list_of {p : Nat → α → Prop} : ∀ (n : Nat), (∀ i, i < n → ∃ x, p i x) → ∃ xs : List α, xs.length = n ∧ ∀ i x, xs[i]? = some x → p i x
  | 0, _ => ⟨[], rfl, fun i x h => by simp at h⟩
  | n + 1, h => by
    obtain ⟨xs, hl, hp⟩ := list_of n (fun i hi => h i (by omega))
    obtain ⟨x, hx⟩ := h n (by omega)
    refine ⟨xs ++ [x], by simp [hl], fun i y hy => ?_⟩
    by_cases hi : i < xs.length
    · rw [List.getElem?_append_left hi] at hy; exact hp i y hy
    · rw [List.getElem?_append_right (by omega)] at hy
      have h0 : i - xs.length = 0 := by
        rcases Nat.eq_zero_or_pos (i - xs.length) with h' | h'
        · exact h'
        · rw [List.getElem?_eq_none (by simp; omega)] at hy; cases hy
      rw [h0] at hy
      simp at hy
      subst hy
      obtain rfl : i = n := by omega
      exact hx

theorem slice {q : Nat} {d : Kd α} {wf : α → Prop} (hu : P.underlying T = some (.slice e)) (hs : P.cellsOf e = d.sz) (he : Opn P w e d wf) :
    Opn P w T (Kd.slice q d) (fun xs => ∀ x ∈ xs, wf x) := by
  intro H enc base spare held fuel cs y h
  rcases open_slice hu h with ⟨rfl, rfl⟩ | ⟨a, len, cap, m, n, D, Pl, rfl, hb, hl, hm, hmm, rfl, hx⟩
  · exact ⟨[], ⟨none, 0, rfl, Nat.le_refl _, rfl, by simp, fun h => absurd h (Nat.lt_irrefl 0)⟩, by simp⟩
  · have hlm : len ≤ m := by rw [hmm]; split <;> omega
    obtain ⟨xs, hlen, hp⟩ := list_of (p := fun i x => (∃ cs', w.cells? base (a.add (i * P.cellsOf e)) (P.cellsOf e) = some cs' ∧ d.K w x cs') ∧ wf x) len (fun i hi => by
      obtain ⟨cs', h1, h2⟩ := hx i (by omega)
      obtain ⟨x, hk, hw⟩ := he h2
      exact ⟨x, ⟨cs', h1, hk⟩, hw⟩)
    refine ⟨xs, ⟨some a, cap, by rw [hlen], by omega, rfl, by unfold maxLen at hm; omega, fun _ => ⟨a, rfl, fun j x hj => ?_⟩⟩, fun x hx' => ?_⟩
    · obtain ⟨⟨cs', h1, hk⟩, _⟩ := hp j x hj
      refine ⟨cs', d.K_len hk, hk, fun i u hu' => ?_⟩
      obtain ⟨_, hl2, hc⟩ := World.cells?_some h1
      have hi : i < cs'.length := by
        rcases Nat.lt_or_ge i cs'.length with h' | h'
        · exact h'
        · rw [List.getElem?_eq_none h'] at hu'; cases hu'
      have := hc i (by omega)
      rw [Deep.add_add, hs] at this
      rw [this]; exact hu'
    · obtain ⟨i, hi⟩ := List.getElem?_of_mem hx'
      exact (hp i x hi).2

end
end Go.Proofs.YtjmgeelblodcgaaDoor.Opn
/- RowMacDerives -/
namespace Go.Proofs.YtjmgeelblodcgaaDoor.macDerives
open Go.ChangeShapes Go.WideShapes Go.ChangeAt Go.RowKit Go.Proofs.YtjmgeelblodcgaaDoorW.PrintWords
open Go.ChangeMaps (open_string shut_string)
set_option linter.unusedVariables false
theorem own : ownKnob Tryd.prog.godebug = none := by kernel_rfl
theorem laidOut : laidOutB Tryd.prog = true := by kernel_rfl
theorem opn22 {W : World} : Opn.Opn Tryd.prog W 22 (Kd.slice 5 (Kd.int .u8)) (fun x => (∀ zx ∈ x, (Lit.int .u8 zx).wf = true)) := Opn.slice Tryd.underlying22 (by kernel_rfl) (Opn.int Tryd.underlying5)
theorem opn29 {W : World} : Opn.Opn Tryd.prog W 29 (Kd.slice 22 (Kd.slice 5 (Kd.int .u8))) (fun x => (∀ zx ∈ x, (∀ zzx ∈ zx, (Lit.int .u8 zzx).wf = true))) := Opn.slice Tryd.underlying29 (by kernel_rfl) opn22
theorem door_met (os : Os) (args : Array Value) : laidMetH Tryd.prog [("weftline/weftlineref04.cube", Rows.laid_weftline_weftlineref04_cube), ("weftline/sha.roots", Rows.laid_weftline_sha_roots), ("weftline/sha.cubes", Rows.laid_weftline_sha_cubes)] ((World.doorLaid Tryd.prog 24 os).forCall (fun _ _ => 0) ⟨#[], args, []⟩).memory := laidMetH_of_parts3 (fuel := 8) (laidMet_of_run' 8 (by kernel_rfl) (by kernel_rfl)) (by kernel_rfl) (by kernel_rfl)
set_option maxRecDepth 100000 in
theorem lifted (os : Os) (started : os.Started) (H : Type) (enc : TypeId × Value → H) :
    ReturnsInHanded {} Tryd.checked os 10 .any (fun w args => (Rows.macDerivesSpec.pre enc Tryd.prog Tryd.f10 [] false w args ∧ laidMetH Tryd.prog [("weftline/weftlineref04.cube", Rows.laid_weftline_weftlineref04_cube), ("weftline/sha.roots", Rows.laid_weftline_sha_roots), ("weftline/sha.cubes", Rows.laid_weftline_sha_cubes)] w) ∧ sizedMet enc Tryd.prog Tryd.f10 (OpenSpec.ofChange Rows.macDerivesSpec) false w args) (Rows.macDerivesSpec.post enc Tryd.prog Tryd.f10 false true false false) := by
  refine returnsInHanded_of_change_and (C := Tryd.checked) (X := fun w _ => laidMetH Tryd.prog [("weftline/weftlineref04.cube", Rows.laid_weftline_weftlineref04_cube), ("weftline/sha.roots", Rows.laid_weftline_sha_roots), ("weftline/sha.cubes", Rows.laid_weftline_sha_cubes)] w) (fun _ _ _ hh h => h.of_heap hh) own started (by kernel_rfl) Tryd.func10
    (ChangeSpec.witness_shaped (enc := enc) (C := Tryd.checked) (os := os) (X := fun w _ => laidMetH Tryd.prog [("weftline/weftlineref04.cube", Rows.laid_weftline_weftlineref04_cube), ("weftline/sha.roots", Rows.laid_weftline_sha_roots), ("weftline/sha.cubes", Rows.laid_weftline_sha_cubes)] w) false (World.doorLaid Tryd.prog 24 os) #[.slice none 0 0, .slice none 0 0, .slice none 0 0] 8 rfl (World.shaped_of_RefB (by kernel_rfl) (by kernel_rfl)) (by kernel_rfl) (by kernel_rfl) (by kernel_rfl) (door_met os _)) ?_
  intro W base args ds gs before hval0 hW _ _ hL _
  have hval : ∀ (j : Nat) t v, Tryd.f10.params[j]? = some t → args[j]? = some v → Value.okWide Tryd.prog W .any base t v := hval0
  have hW' := hW
  obtain ⟨p, q, hA0, hV, rfl, hfz, hnd⟩ := hW
  have hA : DataW.TrodAll enc Tryd.prog W 0 (fun _ => true) true Tryd.f10.params.toList args.toList ds p := hA0
  rw [Tryd.params10] at hA hval
  obtain ⟨v0, vs0, d0, ds0, p0, q0, hargs, rfl, rfl, h0, r0⟩ := trodAll_cons hA
  obtain ⟨v1, vs1, d1, ds1, p1, q1, rfl, rfl, rfl, h1, r1⟩ := trodAll_cons r0
  obtain ⟨v2, vs2, d2, ds2, p2, q2, rfl, rfl, rfl, h2, r2⟩ := trodAll_cons r1
  obtain ⟨rfl, rfl, rfl⟩ := trodAll_nil r2
  obtain rfl : args = #[v0, v1, v2] := by cases args; simp_all
  obtain ⟨rfl, rfl⟩ := trodVars_none hV
  have kk0 := h0
  have lt0 : ∀ x ∈ p0, x.block < W.heap.size := by obtain ⟨m, hm⟩ := kk0; exact DataW.trod_lt m _ _ _ hm
  obtain ⟨a0, len0, cap0, rfl⟩ := okWide_slice Tryd.underlying22 (hval 0 22 v0 rfl rfl)
  obtain ⟨fu0, hf0⟩ := h0
  obtain ⟨l0, ⟨A0, c0, he0, hc0, hr0⟩, w0⟩ := opn22 hf0
  simp only [Value.cells, List.cons.injEq, and_true, Value.slice.injEq] at he0
  obtain ⟨rfl, rfl, rfl⟩ := he0
  have kk1 := h1
  have lt1 : ∀ x ∈ p1, x.block < W.heap.size := by obtain ⟨m, hm⟩ := kk1; exact DataW.trod_lt m _ _ _ hm
  obtain ⟨a1, len1, cap1, rfl⟩ := okWide_slice Tryd.underlying22 (hval 1 22 v1 rfl rfl)
  obtain ⟨fu1, hf1⟩ := h1
  obtain ⟨l1, ⟨A1, c1, he1, hc1, hr1⟩, w1⟩ := opn22 hf1
  simp only [Value.cells, List.cons.injEq, and_true, Value.slice.injEq] at he1
  obtain ⟨rfl, rfl, rfl⟩ := he1
  have kk2 := h2
  have lt2 : ∀ x ∈ p2, x.block < W.heap.size := by obtain ⟨m, hm⟩ := kk2; exact DataW.trod_lt m _ _ _ hm
  obtain ⟨a2, len2, cap2, rfl⟩ := okWide_slice Tryd.underlying29 (hval 2 29 v2 rfl rfl)
  obtain ⟨fu2, hf2⟩ := h2
  obtain ⟨l2, ⟨A2, c2, he2, hc2, hr2⟩, w2⟩ := opn29 hf2
  simp only [Value.cells, List.cons.injEq, and_true, Value.slice.injEq] at he2
  obtain ⟨rfl, rfl, rfl⟩ := he2
  clear hA0 hval0
  refine (Sx.macDerives_walk W _ _ l0 _ _ l1 _ _ l2 hc0 hr0 w0 hc1 hr1 w1 hc2 hr2 w2 hL).mono fun e W' ⟨he, bel⟩ => ?_
  subst he
  exact ⟨_, rfl, _, _, _, [], _, [], hW', trodAll_mk1 (shut_bool Tryd.underlying4 _), (trodAll_cons_mk (Below.trod laidOut (by kernel_rfl) (of_decide_eq_true (by kernel_rfl)) kk0 bel lt0) (trodAll_cons_mk (Below.trod laidOut (by kernel_rfl) (of_decide_eq_true (by kernel_rfl)) kk1 bel lt1) (trodAll_cons_mk (Below.trod laidOut (by kernel_rfl) (of_decide_eq_true (by kernel_rfl)) kk2 bel lt2) trodAll_mk0))), rfl, bel.frame _, fun h => by cases h⟩
theorem over : Rows.macDerivesRow.holds Tryd.pinned (OpenSpec.ofChange Rows.macDerivesSpec) :=
  OpenClaim.holds_of_wide 10 Tryd.f10 rfl rfl rfl rfl rfl rfl rfl ⟨rfl, rfl, rfl, rfl, rfl⟩ rfl rfl rfl rfl rfl (by kernel_rfl) Tryd.func10 (by kernel_rfl)
    (of_decide_eq_true (by kernel_rfl)) (by unfold Func.isWrapper; first | (rw [if_pos (by decide +kernel)]; kernel_rfl) | (rw [if_neg (by decide +kernel)]; exact ⟨rfl, rfl⟩))
    (fun os started H enc _ => lifted os started H enc)
end Go.Proofs.YtjmgeelblodcgaaDoor.macDerives
namespace Go.Proofs.YtjmgeelblodcgaaDoor
/-- The row, under a short name, for the claim. -/
theorem macDerives_holds : Rows.MacDerivesCardSaid :=
  Claim7.holds_tied_plain_at .later [] [.data, .data, .data] true (true, "e984c2e111ca315e242c5a7b081d4bccd60b12e7da62a2ce15b2eb5998a492cd") false
    macDerives.over (fun _ h => by cases h) (by kernel_rfl) (fun _ h => by cases h) macDerives_row_tie rfl ⟨rfl, rfl⟩ (by kernel_rfl) rfl
    (fun f fn hf hfn => by
      obtain rfl : f = 10 := Option.some.inj ((show Tryd.prog.funcNamed "weftline/weftlinelaw05.MacDerives" = some 10 by kernel_rfl).symm.trans hf) |>.symm
      obtain rfl : fn = Tryd.f10 := (Option.some.inj (Tryd.func10.symm.trans hfn)).symm
      exact ⟨by kernel_rfl, fun j t ht => by
        rw [Tryd.params10] at ht
        have hm : t ∈ [22, 22, 29] := by simpa using Array.mem_of_getElem? ht
        have hall : ([22, 22, 29].all fun u => !Tryd.prog.wantsStandIn u) = true := by kernel_rfl
        exact (show Tryd.prog.wantsStandIn t = false by simpa using List.all_eq_true.1 hall t hm)⟩)
    (by kernel_rfl)
#print axioms macDerives_holds
end Go.Proofs.YtjmgeelblodcgaaDoor
