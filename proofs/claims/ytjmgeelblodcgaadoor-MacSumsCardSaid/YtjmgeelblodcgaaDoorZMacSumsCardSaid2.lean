/- MacSums: for every input the law returns true, and its arguments read as before: the row, out of the walk; no condition. -/
import Derived.Test.YtjmgeelblodcgaaDoorZMacSumsCardSaid1
import Derived.BigQuiet
import Derived.Deep.QuietTactic
import Derived.Test.YtjmgeelblodcgaaDoorWWords
import Derived.Test.YtjmgeelblodcgaaDoorWArr
import Derived.ProofKit
import Derived.OpenShut
import Derived.Deep.Slices
import Derived.ChangeArms
import Derived.Test.YtjmgeelblodcgaaDoorRows
import Derived.WalkKit
import Derived.ShutString
import Derived.ChangeOld
import Derived.Below
import Derived.SizedLaws
import Derived.Carry
import Derived.LaidMore
import Derived.Stop.Joined
import Derived.SevenTiedAt
import Derived.Test.YtjmgeelblodcgaaDoorTie
import Derived.Test.YtjmgeelblodcgaaDoorCards
/- EsPj -/
namespace Go.Proofs.YtjmgeelblodcgaaDoor.Sx
open Go.RowKit Go.Proofs.YtjmgeelblodcgaaDoorW.PrintWords Go.Proofs.YtjmgeelblodcgaaDoorW.PrintLast Go.Proofs.YtjmgeelblodcgaaDoorW.PrintMore Go.Proofs.YtjmgeelblodcgaaDoor.Sh Go.Proofs.YtjmgeelblodcgaaDoor.PAll
set_option linter.unusedVariables false
set_option linter.unusedSimpArgs false
theorem store_byteT (w : World) (o i t : Nat) (d : List Int) (hg : w.heap[o]? = some (.cells (cellsB d) t (0, 0))) (hi : i < d.length) (v : Int) :
    (storeVar 5 ⟨o, i, none⟩ (.int .u8 v)).run Tryd.prog w = .ok () (w.setCell ⟨o, i, none⟩ (.int .u8 v)) ∧ (w.setCell ⟨o, i, none⟩ (.int .u8 v)).heap[o]? = some (.cells (cellsB (d.set i v)) t (0, 0)) := by
  have c := (blk_cell hg i).trans (cellsB_get d i hi)
  have f := blk_frozen hg i
  refine ⟨?_, blk_put hg i _ (cellsB_set d i v)⟩
  go_simp
/-- The bytes of a number, the first k of them laid. -/
def nbN (N k : Nat) : List Int := (List.range 8).map (fun i => if i < k then ((N / 2 ^ (8 * (7 - i)) % 256 : Nat) : Int) else 0)
theorem nbN_len (N k : Nat) : (nbN N k).length = 8 := by simp [nbN]
theorem nbN_succ (N k : Nat) (hk : k < 8) : (nbN N k).set k ((N / 2 ^ (8 * (7 - k)) % 256 : Nat) : Int) = nbN N (k + 1) := by
  apply List.ext_getElem
  · simp [nbN]
  · intro j h1 h2
    rw [List.getElem_set]
    simp only [nbN, List.getElem_map, List.getElem_range]
    by_cases h : k = j
    · subst h
      rw [if_pos rfl, if_pos (by omega)]
    · rw [if_neg h]
      by_cases h3 : j < k
      · rw [if_pos h3, if_pos (by omega)]
      · rw [if_neg h3, if_neg (by omega)]
theorem nbN_be (N : Nat) : nbN N 8 = be N 8 := by
  simp only [be]
  rfl
/-- What is drawn. -/
def drawn (key : List Int) (N : Nat) : Nat := ((bt8 (mac key (be N 8)) 0 * 256 + bt8 (mac key (be N 8)) 1) * 256 + bt8 (mac key (be N 8)) 2) * 256 + bt8 (mac key (be N 8)) 3
/-- What the first k bytes draw. -/
def oN (d : List Int) : Nat → Nat
  | 0 => 0
  | k + 1 => (oN d k * 2 ^ 8 % 4294967296) ||| bt8 d k
theorem o_step (x y : Nat) (hx : x < 16777216) (hy : y < 256) : (x * 2 ^ 8 % 4294967296) ||| y = x * 256 + y := by
  rw [Nat.mod_eq_of_lt (by omega), or_add x y 8 (by omega)]
theorem oN_4 {d : List Int} (hb : Bytes d) : oN d 4 = ((bt8 d 0 * 256 + bt8 d 1) * 256 + bt8 d 2) * 256 + bt8 d 3 := by
  have h0 := bt8_lt hb 0
  have h1 := bt8_lt hb 1
  have h2 := bt8_lt hb 2
  have h3 := bt8_lt hb 3
  have s1 : oN d 1 = bt8 d 0 := by rw [oN, oN, o_step _ _ (by decide) h0]; omega
  have s2 : oN d 2 = bt8 d 0 * 256 + bt8 d 1 := by rw [oN, s1, o_step _ _ (by omega) h1]
  have s3 : oN d 3 = (bt8 d 0 * 256 + bt8 d 1) * 256 + bt8 d 2 := by rw [oN, s2, o_step _ _ (by omega) h2]
  rw [oN, s3, o_step _ _ (by omega) h3]
set_option pp.deepTerms true in
set_option pp.maxSteps 10000000 in
set_option maxRecDepth 100000 in
set_option maxHeartbeats 2000000 in
theorem draw_calls (w : World) (hr : Roots w) (hcu : Cubes w) (A : Option Addr) (c : Nat) (key : List Int) (hT : Txt w (.slice A key.length c) key) (hkl : key.length ≤ 900000) (n : Int) (N : Nat) (hN : IntKind.u64.wrap n = (N : Int)) :
    Calls Tryd.prog 22 #[.slice A key.length c, .int .i64 n] w fun e w' => e = .returned (.int .u32 (drawn key N : Nat)) ∧ Below w.heap.size w w' := by
  have HR := Aside0.mk hr
  have HCU := Aside0.mk hcu
  have HT := Aside0.mk hT
  have HB0 := Aside0.mk (below_alloc (Below.refl w.heap.size w) (.cells (cellsB (nbN N 0)) 65))
  have HA0 := Aside0.mk (blk_new w (.cells (cellsB (nbN N 0)) 65))
  have hz : (#[.int .u8 0, .int .u8 0, .int .u8 0, .int .u8 0, .int .u8 0, .int .u8 0, .int .u8 0, .int .u8 0] : Array Value) = cellsB (nbN N 0) := rfl
  have HZ := Aside0.mk hz
  clear hr hcu hT hz
  go_enter Tryd.func22, Tryd.ntmps22
  go_wp2_with fail
  rw [HZ.out]
  obtain ⟨b, hb⟩ : ∃ b, b = w.heap.size := ⟨_, rfl⟩
  have HBE := Aside0.mk hb
  rw [← hb] at HA0 ⊢
  clear hb
  go_loopw [11] (fun i wr => ∃ k : Nat, k ≤ 8 ∧ i = .int .i64 (k : Nat) ∧ Aside0 (Below w.heap.size w wr) ∧ Aside0 (wr.heap[b]? = some (.cells (cellsB (nbN N k)) 65 (0, 0)))) (fun i _ => 8 - (intOf i).toNat)
  case atStart => exact ⟨0, Nat.zero_le _, rfl, HB0, HA0⟩
  case round =>
    obtain ⟨k, hk, rfl, HB, HA⟩ := hrel
    by_cases hlt : k < 8
    · have hki : (k : Int) < 8 := by omega
      obtain ⟨hs, ho⟩ := store_byteT wr b k 65 (nbN N k) HA.out (by rw [nbN_len]; exact hlt) ((N : Int) / 2 ^ (8 * (7 - k)) % 256)
      have hv : (N : Int) / 2 ^ (8 * (7 - k)) % 256 = ((N / 2 ^ (8 * (7 - k)) % 256 : Nat) : Int) := by
        first | (rw [Int.natCast_emod, Int.natCast_ediv, Int.natCast_pow]; done) | (rw [Int.natCast_emod, Int.natCast_ediv, Int.natCast_pow]; rfl)
      have HS := Aside0.mk hs
      have HA2 := Aside0.mk (show (wr.setCell ⟨b, k, none⟩ (.int .u8 ((N : Int) / 2 ^ (8 * (7 - k)) % 256))).heap[b]? = some (Obj.cells (cellsB (nbN N (k + 1))) 65 (0, 0)) from by rw [← nbN_succ N k hlt, ← hv]; exact ho)
      have HB2 := Aside0.mk (below_set (j := k) (v := .int .u8 ((N : Int) / 2 ^ (8 * (7 - k)) % 256)) HB.out (show w.heap.size ≤ b by rw [HBE.out]; exact Nat.le_refl _))
      clear hs ho hv
      go_wp2_with (first | (refine store_at (s := .tmp 22) rfl rfl rfl rfl HS.out ?_))
      go_roundw
      case rel => exact ⟨k + 1, by omega, by go_num, HB2, HA2⟩
      case measure => simp [intOf]; omega
    · obtain rfl : k = 8 := by omega
      have hA := HA.out
      rw [nbN_be] at hA
      have hX : Txt wr (.slice (some ⟨b, 0, none⟩) 8 8) (be N 8) := txt_pre (l := be N 8) 8 8 (be_len _ _).symm (Nat.le_refl _) hA (fun j hj => cellsB_get _ _ hj) (by rw [be_len]; decide) (be_bytes _ _)
      have HM := Aside0.mk (mac1 (l1 := be N 8) (HR.out.below HB.out) (HCU.out.below HB.out) (HT.out.below HB.out) hkl hX (by rw [be_len]; decide) wr.heap.size rfl)
      clear hA hX
      go_wp2_with fail
      refine HM.out.mono ?_
      rintro e W4 ⟨rfl, hb4⟩
      have hB4 := HB.out.trans (hb4.mono HB.out.size)
      obtain ⟨d, hd⟩ : ∃ d, d = mac key (be N 8) := ⟨_, rfl⟩
      have hdl : d.length = 32 := by rw [hd]; exact mac_len _ _
      have hdb : Bytes d := by rw [hd]; exact mac_bytes _ _
      have HDR := Aside0.mk (show drawn key N = ((bt8 d 0 * 256 + bt8 d 1) * 256 + bt8 d 2) * 256 + bt8 d 3 by rw [hd]; rfl)
      rw [← hd]
      have hst := store32 (W4.alloc (.cells zero32 25)) W4.heap.size d hdl (old := List.replicate 32 0) (blk_new W4 _) rfl
      have HST := Aside0.mk hst.1
      have HB5 := Aside0.mk (below_setRow (below_alloc hB4 (.cells zero32 25)) hB4.size (cellsB d))
      have HD5 := Aside0.mk hst.2
      obtain ⟨W6, hW6⟩ : ∃ x, x = (W4.alloc (.cells zero32 25)).setRow W4.heap.size (cellsB d) := ⟨_, rfl⟩
      have HW6 := Aside0.mk hW6
      rw [← hW6] at HB5 HD5
      obtain ⟨D, hD⟩ : ∃ D, D = W4.heap.size := ⟨_, rfl⟩
      have HDe := Aside0.mk hD
      rw [← hD] at HD5
      have HDL := Aside0.mk hdl
      have HDB := Aside0.mk hdb
      clear hst hd hW6 hD hb4 hB4 hdl hdb
      go_wp2_with (first | (refine store_whole (s := .tmp 7) rfl rfl rfl rfl HST.out ?_))
      rw [← show W6 = (W4.alloc (.cells zero32 25)).setRow W4.heap.size (cellsB d) from HW6.out, ← show D = W4.heap.size from HDe.out]
      clear HW6 HST HDe HM
      go_loopw [8, 30] (fun v i wr' => ∃ k : Nat, k ≤ 4 ∧ i = .int .i64 (k : Nat) ∧ v = .int .u32 (oN d k : Nat) ∧ Aside0 (Below w.heap.size w wr') ∧ Aside0 (wr'.heap[D]? = some (.cells (cellsB d) 25 (0, 0)))) (fun _ i _ => 4 - (intOf i).toNat)
      case atStart => exact ⟨0, Nat.zero_le _, rfl, rfl, HB5, HD5⟩
      case round =>
        obtain ⟨k, hk, rfl, rfl, HB6, HD6⟩ := hrel
        by_cases hlt : k < 4
        · have hki : (k : Int) < 4 := by omega
          have hcell := (blk_cell HD6.out k).trans (cellsB_get d k (by rw [HDL.out]; omega))
          obtain ⟨y, hy⟩ : ∃ y, y = bt8 d k := ⟨_, rfl⟩
          have hyd : d.getD k 0 = (y : Int) := by
            have h := bt8_rd HDB.out k (by rw [HDL.out]; omega)
            unfold rd at h
            rw [Int.toNat_natCast] at h
            rw [h, hy]
          have hy8 : y < 256 := by rw [hy]; exact bt8_lt HDB.out k
          rw [hyd] at hcell
          obtain ⟨x, hx⟩ : ∃ x, x = oN d k := ⟨_, rfl⟩
          rw [← hx]
          have HOR := Aside0.mk (show bits .or .u32 ((x : Int) * 256 % 4294967296) (y : Int) = ((oN d (k + 1) : Nat) : Int) from by
            rw [oN, ← hx, ← hy, show (x : Int) * 256 % 4294967296 = ((x * 2 ^ 8 % 4294967296 : Nat) : Int) by omega, or32 _ _ (Nat.mod_lt _ (by decide)) (by omega)])
          clear hx hy hyd
          go_wp2_with fail
          refine ⟨⟨k + 1, by omega, by go_num, by rw [HOR.out], HB6, HD6⟩, ?_⟩
          simp [intOf]
          omega
        · obtain rfl : k = 4 := by omega
          go_wp2_with fail
          go_ret
          exact ⟨by rw [HDR.out, ← oN_4 HDB.out]; rfl, HB6.out⟩
end Go.Proofs.YtjmgeelblodcgaaDoor.Sx
/- EsPk -/
namespace Go.Proofs.YtjmgeelblodcgaaDoor.Sx
open Go.RowKit Go.Proofs.YtjmgeelblodcgaaDoorW.PrintWords Go.Proofs.YtjmgeelblodcgaaDoorW.PrintLast Go.Proofs.YtjmgeelblodcgaaDoorW.PrintMore Go.Proofs.YtjmgeelblodcgaaDoor.Sh Go.Proofs.YtjmgeelblodcgaaDoor.PAll
set_option linter.unusedVariables false
set_option linter.unusedSimpArgs false
theorem be_at (N m : Nat) (hm : m < 8) : (be N 8).getD (7 - m) 0 = ((N / 2 ^ (8 * m) % 256 : Nat) : Int) := by
  rw [← nbN_be]
  unfold nbN
  rw [List.getD_eq_getElem?_getD, List.getElem?_map, List.getElem?_range (by omega)]
  simp only [Option.map_some, Option.getD_some]
  rw [if_pos (by omega), show 7 - (7 - m) = m by omega]
theorem be_int (N m : Nat) : (N : Int) / 2 ^ (8 * m) % 256 = ((N / 2 ^ (8 * m) % 256 : Nat) : Int) := by
  first | (rw [Int.natCast_emod, Int.natCast_ediv, Int.natCast_pow]; done) | (rw [Int.natCast_emod, Int.natCast_ediv, Int.natCast_pow]; rfl)
set_option maxRecDepth 100000 in
set_option maxHeartbeats 2000000 in
theorem rdraw_calls (w : World) (hrc : RCubes w) (A : Option Addr) (c : Nat) (key : List Int) (hT : Txt w (.slice A key.length c) key) (hkl : key.length ≤ 900000) (n : Int) (N : Nat) (hN : IntKind.u64.wrap n = (N : Int)) :
    Calls Tryd.prog 23 #[.slice A key.length c, .int .i64 n] w fun e w' => e = .returned (.int .u32 (drawn key N : Nat)) ∧ Below w.heap.size w w' := by
  have HRC := Aside0.mk hrc
  have HT := Aside0.mk hT
  obtain ⟨Lb, hLb⟩ : ∃ x, x = be N 8 := ⟨_, rfl⟩
  have HLB := Aside0.mk hLb
  have HLL := Aside0.mk (show Lb.length = 8 by rw [hLb]; exact be_len _ _)
  clear hrc hT hLb
  go_enter Tryd.func23, Tryd.ntmps23
  go_wp2_with fail
  go_loopw [5, 6] (fun v i wr => ∃ j : Nat, j ≤ 8 ∧ i = .int .i64 ((j : Int) - 1) ∧ Aside0 (RB wr w.heap.size v (Lb.take (8 - j))) ∧ Aside0 (Below w.heap.size w wr)) (fun _ i _ => (intOf i + 1).toNat)
  case atStart => exact ⟨8, Nat.le_refl _, rfl, ⟨Kd.R_nil _ _ _ _ _⟩, ⟨Below.refl _ _⟩⟩
  case round =>
    obtain ⟨j, hj, rfl, HR, HB⟩ := hrel
    cases j with
    | succ m =>
      rw [show ((m + 1 : Nat) : Int) - 1 = (m : Int) by omega]
      have hm8 : (m : Int) < 8 := by omega
      have hg : decide ((0 : Int) ≤ (m : Int)) = true := by simp
      obtain ⟨L1, hL1⟩ : ∃ x, x = Lb.take (8 - (m + 1)) := ⟨_, rfl⟩
      rw [← hL1] at HR
      have HL := Aside0.mk (show (L1.length + 1) * 1 ≤ 140737488355328 by rw [hL1, List.length_take]; omega)
      have HE := Aside0.mk (show L1 ++ [(N : Int) / 2 ^ (8 * m) % 256] = Lb.take (8 - m) from by
        rw [hL1, be_int, ← be_at N m (by omega), ← HLB.out, show 8 - m = 7 - m + 1 by omega, take_snoc Lb (7 - m) (by rw [HLL.out]; omega), show 8 - (m + 1) = 7 - m by omega])
      obtain ⟨A1, c1, rfl⟩ := Kd.R_slice HR.out
      clear hL1
      go_wp2_with (first | ((with_reducible refine gate_builtin (b := .append) (xs := #[.tmp 12, .tmp 20]) rfl ?_); at_builtin; refine Kd.R_append (Kd.int .u8) (w0 := w) w.heap.size rfl (.tmp 12) (.tmp 20) 22 5 (.int .u8 0) 1 rfl Tryd.underlying22 info5 rfl (by decide) (by omega) (.slice A1 L1.length c1) L1 ((N : Int) / 2 ^ (8 * m) % 256) [.int .u8 ((N : Int) / 2 ^ (8 * m) % 256)] (fun _ => True) (fun _ => False) rfl rfl ?aP (fun _ hk => hk.elim) ?aF ?aO ?aB ?aS ?aL ?_; (case aP => exact rfl); (case aF => exact (fun _ _ => trivial)); (case aO => exact HR.out); (case aB => exact HB.out); (case aS => exact HB.out.size); (case aL => exact HL.out); intro v2 w2 ho hb hg hat; have HO2 := Aside0.mk ho; have HB2 := Aside0.mk hb; clear ho hb hg hat))
      go_roundw
      case rel => exact ⟨m, by omega, by go_num, ⟨by rw [← HE.out]; exact HO2.out⟩, HB2⟩
      case measure => first | (simp [intOf]; done) | (simp [intOf]; omega)
    | zero =>
      have h := HR.out
      rw [show 8 - 0 = 8 from rfl, List.take_of_length_le (show Lb.length ≤ 8 by rw [HLL.out]; exact Nat.le_refl _)] at h
      have hg : decide ((0 : Int) ≤ -1) = false := by decide
      obtain ⟨A1, c1, rfl⟩ := Kd.R_slice h
      have hX : Txt wr (.slice A1 Lb.length c1) Lb := Txt.of_RB h (by rw [HLB.out]; exact be_bytes _ _) (by rw [HLL.out]; decide)
      have HM := Aside0.mk (rmac_calls wr (HRC.out.below HB.out) A c key (HT.out.below HB.out) hkl A1 c1 Lb hX (by rw [HLL.out]; decide))
      clear h hX
      go_wp2_with fail
      refine HM.out.mono ?_
      rintro e w4 ⟨v4, rfl, hv, hb⟩
      have HB4 := Aside0.mk (HB.out.trans (hb.mono HB.out.size))
      obtain ⟨d, hd⟩ : ∃ d, d = mac key Lb := ⟨_, rfl⟩
      rw [← hd] at hv
      have hdl : d.length = 32 := by rw [hd]; exact mac_len _ _
      have hdb : Bytes d := by rw [hd]; exact mac_bytes _ _
      have HDR := Aside0.mk (show drawn key N = ((bt8 d 0 * 256 + bt8 d 1) * 256 + bt8 d 2) * 256 + bt8 d 3 by rw [hd, HLB.out]; rfl)
      obtain ⟨A4, c4, rfl⟩ := Kd.R_slice hv
      rw [hdl] at hv ⊢
      obtain ⟨g, rfl⟩ : ∃ g, A4 = some ⟨g, 0, none⟩ := (own_form hv).resolve_left (by intro e; rw [e] at hdl; cases hdl)
      obtain ⟨cur, hcur, _, _, hcells⟩ := rb_block hv
      have hce : ∀ k, k < 4 → w4.cell? ⟨g, k, none⟩ = some (.int .u8 (bt8 d k : Nat)) := fun k hk => by
        rw [(blk_cell hcur k).trans (hcells k (by omega))]
        have h := bt8_rd hdb k (by omega)
        unfold rd at h
        rw [Int.toNat_natCast] at h
        rw [h]
      have k0 := hce 0 (by decide)
      have k1 := hce 1 (by decide)
      have k2 := hce 2 (by decide)
      have k3 := hce 3 (by decide)
      have b0 := bt8_lt hdb 0
      have b1 := bt8_lt hdb 1
      have b2 := bt8_lt hdb 2
      have b3 := bt8_lt hdb 3
      obtain ⟨y0, hy0⟩ : ∃ y, y = bt8 d 0 := ⟨_, rfl⟩
      obtain ⟨y1, hy1⟩ : ∃ y, y = bt8 d 1 := ⟨_, rfl⟩
      obtain ⟨y2, hy2⟩ : ∃ y, y = bt8 d 2 := ⟨_, rfl⟩
      obtain ⟨y3, hy3⟩ : ∃ y, y = bt8 d 3 := ⟨_, rfl⟩
      rw [← hy0] at k0 b0
      rw [← hy1] at k1 b1
      rw [← hy2] at k2 b2
      rw [← hy3] at k3 b3
      rw [← hy0, ← hy1, ← hy2, ← hy3] at HDR
      clear hv hb hd hdl hdb hcur hcells hce hy0 hy1 hy2 hy3 HM
      go_wp2_with fail
      go_quiet (fail)
      go_wp2_with fail
      go_ret
      refine ⟨?_, pw_below_drewN HB4.out nq⟩
      rw [HDR.out]
      have he : (y0 : Int) * 16777216 + (y1 : Int) * 65536 + (y2 : Int) * 256 + (y3 : Int) = ((((y0 * 256 + y1) * 256 + y2) * 256 + y3 : Nat) : Int) := by omega
      rw [← he]
      rfl
end Go.Proofs.YtjmgeelblodcgaaDoor.Sx
/- EsPl -/
namespace Go.Proofs.YtjmgeelblodcgaaDoor.Sx
open Go.RowKit Go.Proofs.YtjmgeelblodcgaaDoorW.PrintWords Go.Proofs.YtjmgeelblodcgaaDoorW.PrintLast Go.Proofs.YtjmgeelblodcgaaDoorW.PrintMore Go.Proofs.YtjmgeelblodcgaaDoor.Sh
set_option linter.unusedVariables false
set_option linter.unusedSimpArgs false
theorem conv_run {P : Program} {o : Oper} {a : Act} {W : World} {t u : TypeId} {s : Operand} {v r : Value} (ho : o.op = .convert t u s) (hs : a.eval s = v) (hl : (convert t u v).run P W = .ok r W) : (execOp a.eval o).run P W = .ok (.value r) W := by
  unfold execOp
  simp only [ho, hs, Sem.run_bind, Sem.run_pure, Result.andThen_ok, hl]
theorem u64_nat (a : Int) : ∃ N : Nat, IntKind.u64.wrap a = (N : Int) := by
  have h : IntKind.u64.wrap a = a % 18446744073709551616 := rfl
  rw [h]
  exact ⟨(a % 18446744073709551616).toNat, by omega⟩
set_option maxRecDepth 100000 in
set_option maxHeartbeats 4000000 in
theorem macSums_main (w : World) (hrc : RCubes w) (hr : Roots w) (hcu : Cubes w) (A0 : Option Addr) (c0 : Nat) (l0 : List Int) (t0 : Txt w (.slice A0 l0.length c0) l0) (A1 : Option Addr) (c1 : Nat) (l1 : List Int) (t1 : Txt w (.slice A1 l1.length c1) l1) (h0 : l0.length ≤ 500) (h1 : l1.length ≤ 1000) (a2 : Int) :
    Calls Tryd.prog 9 #[.slice A0 l0.length c0, .slice A1 l1.length c1, .int .i64 a2] w (Yes w) := by
  have HRC := Aside0.mk hrc
  have E := Aside0.mk (⟨fun t ht => by
    simp only [List.mem_cons, List.not_mem_nil, or_false] at ht
    rcases ht with rfl | rfl
    · exact t0
    · exact t1, hr, hcu, Below.refl _ _⟩ : Env w w [(.slice A0 l0.length c0, l0), (.slice A1 l1.length c1, l1)])
  have n0 : decide ((500 : Int) < (l0.length : Int)) = false := by simp; omega
  have n1 : decide ((1000 : Int) < (l1.length : Int)) = false := by simp; omega
  have HLAl0 := Aside0.mk (show (([] : List Int).length + l0.length) * 1 ≤ 140737488355328 by simp; omega)
  have HLAl1 := Aside0.mk (show (([] : List Int).length + l1.length) * 1 ≤ 140737488355328 by simp; omega)
  have b_0 : Bytes l0 := by obtain ⟨_, _, _, _, _, h, _⟩ := t0; exact h
  have b_1 : Bytes l1 := by obtain ⟨_, _, _, _, _, h, _⟩ := t1; exact h
  have T0 := Aside0.mk t0
  have T1 := Aside0.mk t1
  obtain ⟨N, hN⟩ := u64_nat a2
  have HN := Aside0.mk hN
  clear hrc hr hcu t0 t1 hN
  go_enter Tryd.func9, Tryd.ntmps9
  go_wp2_with fail
  refine (alive5_calls w E.out.roots E.out.cubes).mono ?_
  rintro e w1 ⟨rfl, hb⟩
  have HB1 := Aside0.mk hb
  clear hb
  go_wp2_with (first | ((with_reducible refine gate_dst (N := 20) rfl ?_); refine Kd.R_lit (Kd.int .u8) (w0 := w) w.heap.size 5 ?hg (N := 20) ?hd (xs := ([] : List Int)) (inner := []) (ok := fun _ => True) (okp := fun _ => True) ?hr ?hp (fun _ hk => hk) trivial HB1.out HB1.out.size (by simp) ?_; (case hd => rfl); (case hg => rfl); (case hr => first | (go_simp; done) | (go_simp; rfl)); (case hp => exact (Reps.none _ _)); intro v2 w2 ho hb hg hn; have HO2 := Aside0.mk ho; have HB2 := Aside0.mk hb; clear ho hb hg hn; obtain ⟨A12, c12, rfl⟩ := Kd.R_slice HO2.out) | ((with_reducible refine gate_builtin (b := .append) (xs := #[.tmp 20, .tmp 21]) rfl ?_); at_builtin; refine Kd.R_append_rows (Kd.int .u8) (w0 := w) w.heap.size rfl (.tmp 20) (.tmp 21) 22 5 (.int .u8 0) 1 rfl Tryd.underlying22 info5 rfl (by decide) (by omega) (.slice A12 ([] : List Int).length c12) ([] : List Int) l0 A0 l0.length c0 (fun _ => True) (fun _ => False) rfl rfl ?aO ?aR (fun _ _ h => h) (fun _ h => h.elim) (fun _ _ => trivial) ?aB ?aS ?aL ?_; (case aO => exact HO2.out); (case aR => exact (txt_C (T0.out.below HB2.out)).1); (case aB => exact HB2.out); (case aS => exact HB2.out.size); (case aL => exact HLAl0.out); intro v3 w3 ho hb hg hn; rw [List.nil_append] at ho; have HO3 := Aside0.mk ho; have HB3 := Aside0.mk hb; clear ho hb hg hn; obtain ⟨A13, c13, rfl⟩ := Kd.R_slice HO3.out) | ((with_reducible refine gate_dst (N := 23) rfl ?_); refine Aside0.out ?_))
  refine Aside0.mk ?_
  have HX3 := Aside0.mk (Txt.of_RB HO3.out b_0 (by omega))
  have HBR := Aside0.mk (Below.refl w3.heap.size w3)
  go_wp2_with (first | ((with_reducible refine gate_dst (N := 23) rfl ?_); refine Kd.R_lit (Kd.int .u8) (w0 := w3) w3.heap.size 5 ?hg (N := 23) ?hd (xs := ([] : List Int)) (inner := []) (ok := fun _ => True) (okp := fun _ => True) ?hr ?hp (fun _ hk => hk) trivial HBR.out HBR.out.size (by simp) ?_; (case hd => rfl); (case hg => rfl); (case hr => first | (go_simp; done) | (go_simp; rfl)); (case hp => exact (Reps.none _ _)); intro v4 w4 ho hb hg hn; have HO4 := Aside0.mk ho; have HB4 := Aside0.mk hb; clear ho hb hg hn; obtain ⟨A14, c14, rfl⟩ := Kd.R_slice HO4.out) | ((with_reducible refine gate_builtin (b := .append) (xs := #[.tmp 23, .tmp 24]) rfl ?_); at_builtin; refine Kd.R_append_rows (Kd.int .u8) (w0 := w3) w3.heap.size rfl (.tmp 23) (.tmp 24) 22 5 (.int .u8 0) 1 rfl Tryd.underlying22 info5 rfl (by decide) (by omega) (.slice A14 ([] : List Int).length c14) ([] : List Int) l1 A1 l1.length c1 (fun _ => True) (fun _ => False) rfl rfl ?aO ?aR (fun _ _ h => h) (fun _ h => h.elim) (fun _ _ => trivial) ?aB ?aS ?aL ?_; (case aO => exact HO4.out); (case aR => exact (txt_C (T1.out.below (HB3.out.trans (HB4.out.mono HB3.out.size)))).1); (case aB => exact HB4.out); (case aS => exact HB4.out.size); (case aL => exact HLAl1.out); intro v5 w5 ho hb hg hn; rw [List.nil_append] at ho; have HO5 := Aside0.mk ho; have HB5 := Aside0.mk hb; clear ho hb hg hn; obtain ⟨A15, c15, rfl⟩ := Kd.R_slice HO5.out))
  have HBW5 := Aside0.mk (HB3.out.trans (HB5.out.mono HB3.out.size))
  have HX5 := Aside0.mk (Txt.of_RB HO5.out b_1 (by omega))
  have HX35 := Aside0.mk (HX3.out.below HB5.out)
  have E5 := E.out.below HBW5.out
  refine (mac1 (l1 := l1) E5.roots E5.cubes HX35.out (by omega) HX5.out (by omega) _ rfl).mono ?_
  rintro e W4 ⟨rfl, hb4⟩
  obtain ⟨d, hd⟩ : ∃ d, d = mac l0 l1 := ⟨_, rfl⟩
  have hdl : d.length = 32 := by rw [hd]; exact mac_len _ _
  have hdb : Bytes d := by rw [hd]; exact mac_bytes _ _
  dsimp only
  rw [← hd]
  have hst := store32 (W4.alloc (.cells zero32 25)) W4.heap.size d hdl (old := List.replicate 32 0) (blk_new W4 _) rfl
  have HST := Aside0.mk hst.1
  have hB5 := below_setRow (below_alloc (Below.refl W4.heap.size W4) (.cells zero32 25)) (Nat.le_refl _) (cellsB d)
  have HB9 := Aside0.mk (hb4.trans (hB5.mono hb4.size))
  have HD9 := Aside0.mk hst.2
  obtain ⟨W9, hW9⟩ : ∃ x, x = (W4.alloc (.cells zero32 25)).setRow W4.heap.size (cellsB d) := ⟨_, rfl⟩
  have HW9 := Aside0.mk hW9
  rw [← hW9] at HB9 HD9
  obtain ⟨D, hD⟩ : ∃ D, D = W4.heap.size := ⟨_, rfl⟩
  have HDe := Aside0.mk hD
  rw [← hD] at HD9
  have HDL := Aside0.mk hdl
  have HDB := Aside0.mk hdb
  have HDD := Aside0.mk hd
  have HBW9 := Aside0.mk (HBW5.out.trans (HB9.out.mono HBW5.out.size))
  have HXA := Aside0.mk (HX35.out.below HB9.out)
  have HXB := Aside0.mk (HX5.out.below HB9.out)
  have HF := Aside0.mk (show ∀ w', Below W9.heap.size W9 w' → (convert 22 9 (.slice (some ⟨D, 0, none⟩) 32 32)).run Tryd.prog w' = .ok (.string (strOfNums d)) w' ∧ (convert 22 9 (.slice A13 l0.length c13)).run Tryd.prog w' = .ok (.string (strOfNums l0)) w' ∧ (convert 22 9 (.slice A0 l0.length c0)).run Tryd.prog w' = .ok (.string (strOfNums l0)) w' ∧ (convert 22 9 (.slice A15 l1.length c15)).run Tryd.prog w' = .ok (.string (strOfNums l1)) w' ∧ (convert 22 9 (.slice A1 l1.length c1)).run Tryd.prog w' = .ok (.string (strOfNums l1)) w' from fun w' hB =>
    ⟨txt_str (dig_at hdl hdb HD9.out hB).2, txt_str (HXA.out.below hB), txt_str (T0.out.below (HBW9.out.trans (hB.mono HBW9.out.size))), txt_str (HXB.out.below hB), txt_str (T1.out.below (HBW9.out.trans (hB.mono HBW9.out.size)))⟩)
  have HC21 := Aside0.mk (show Calls Tryd.prog 21 #[.slice A0 l0.length c0, .slice A1 l1.length c1] W9.drew (fun e w' => ∃ v, e = .returned v ∧ RB w' W9.heap.size v d ∧ Below W9.heap.size W9.drew w') from by
    have hB := below_drew1 (Below.refl W9.heap.size W9)
    have hw := HBW9.out.trans (hB.mono HBW9.out.size)
    rw [hd]
    exact rmac_calls W9.drew (HRC.out.below hw) A0 c0 l0 (T0.out.below hw) (by omega) A1 c1 l1 (T1.out.below hw) (by omega))
  have HC22 := Aside0.mk (fun (w' : World) (hB : Below W9.heap.size W9 w') => draw_calls w' (E.out.below (HBW9.out.trans (hB.mono HBW9.out.size))).roots (E.out.below (HBW9.out.trans (hB.mono HBW9.out.size))).cubes A13 c13 l0 (HXA.out.below hB) (by omega) a2 N HN.out)
  have HC23 := Aside0.mk (fun (w' : World) (hB : Below W9.heap.size W9 w') => rdraw_calls w' (HRC.out.below (HBW9.out.trans (hB.mono HBW9.out.size))) A0 c0 l0 (T0.out.below (HBW9.out.trans (hB.mono HBW9.out.size))) (by omega) a2 N HN.out)
  clear hst hd hW9 hD hb4 E5 hdl hdb hB5 HO5 HO4 HO3 HO2 HX3 HX35 HX5
  go_wp2_with (first | (refine store_whole (s := .tmp 9) rfl rfl rfl rfl HST.out ?_))
  rw [← show W9 = (W4.alloc (.cells zero32 25)).setRow W4.heap.size (cellsB d) from HW9.out, ← show D = W4.heap.size from HDe.out]
  clear HW9 HST HDe
  refine start_ (n := 31) (S := fun w' => Below W9.heap.size W9 w' ∧ (convert 22 9 (.slice (some ⟨D, 0, none⟩) 32 32)).run Tryd.prog w' = .ok (.string (strOfNums d)) w' ∧ (convert 22 9 (.slice A13 l0.length c13)).run Tryd.prog w' = .ok (.string (strOfNums l0)) w' ∧ (convert 22 9 (.slice A0 l0.length c0)).run Tryd.prog w' = .ok (.string (strOfNums l0)) w' ∧ (convert 22 9 (.slice A15 l1.length c15)).run Tryd.prog w' = .ok (.string (strOfNums l1)) w' ∧ (convert 22 9 (.slice A1 l1.length c1)).run Tryd.prog w' = .ok (.string (strOfNums l1)) w') (ds := []) #[false, false, false, false, false, false, false, false, false, false, false, false, false, false, false, false, false, false, false, false, false, false, false, false, false, false, false, false, false, false, false] (by kernel_rfl) rfl rfl ⟨below_drew1 (Below.refl _ _), (HF.out _ (below_drew1 (Below.refl _ _))).1, (HF.out _ (below_drew1 (Below.refl _ _))).2.1, (HF.out _ (below_drew1 (Below.refl _ _))).2.2.1, (HF.out _ (below_drew1 (Below.refl _ _))).2.2.2.1, (HF.out _ (below_drew1 (Below.refl _ _))).2.2.2.2⟩ (fun hHeld => ?_)
  refine pure_ (i := 0) (N := some 30) (v := ?_) (a' := ?_) #[true, false, false, false, false, false, false, false, false, false, false, false, false, false, false, false, false, false, false, false, false, false, false, false, false, false, false, false, false, false, false] rfl rfl (by kernel_rfl) (fun _ _ _ h => h) (Or.inl ⟨by rfl, ?_⟩) ?_ ?_
  rotate_left
  · intro w'
    go_simp
    with_reducible rfl
  rotate_left
  · simp only [Act.put, List.setIfInBounds_toArray, List.set_cons_zero, List.set_cons_succ, i64_w, i32_w]
    rfl
  refine pure_ (i := 2) (N := some 32) (v := ?_) (a' := ?_) #[true, false, true, false, false, false, false, false, false, false, false, false, false, false, false, false, false, false, false, false, false, false, false, false, false, false, false, false, false, false, false] rfl rfl (by kernel_rfl) (fun _ _ _ h => h) (Or.inl ⟨by rfl, ?_⟩) ?_ ?_
  rotate_left
  · intro w'
    go_simp
    with_reducible rfl
  rotate_left
  · simp only [Act.put, List.setIfInBounds_toArray, List.set_cons_zero, List.set_cons_succ, i64_w, i32_w]
    rfl
  refine pure_ (i := 3) (N := some 33) (v := ?_) (a' := ?_) #[true, false, true, true, false, false, false, false, false, false, false, false, false, false, false, false, false, false, false, false, false, false, false, false, false, false, false, false, false, false, false] rfl rfl (by kernel_rfl) (fun _ _ _ h => h) (Or.inl ⟨by rfl, ?_⟩) ?_ ?_
  rotate_left
  · intro w'
    go_simp
    with_reducible rfl
  rotate_left
  · simp only [Act.put, List.setIfInBounds_toArray, List.set_cons_zero, List.set_cons_succ, i64_w, i32_w]
    rfl
  refine take_ (i := 1) (N := some 31) (v := ?_) (a' := ?_) #[true, true, true, true, false, false, false, false, false, false, false, false, false, false, false, false, false, false, false, false, false, false, false, false, false, false, false, false, false, false, false] rfl rfl (by kernel_rfl) (fun _ _ _ h => h) (Or.inl ⟨by rfl, ?_⟩) hHeld ?_ ?_
  rotate_left
  · rintro w' ⟨s0, s1, s2, s3, s4, s5⟩
    go_simp
    with_reducible rfl
  rotate_left
  · simp only [Act.put, List.setIfInBounds_toArray, List.set_cons_zero, List.set_cons_succ, i64_w, i32_w]
    rfl
  refine one_ (i := 4) (N := some 34) #[true, true, true, true, true, false, false, false, false, false, false, false, false, false, false, false, false, false, false, false, false, false, false, false, false, false, false, false, false, false, false] rfl rfl (by kernel_rfl) (by decide) (fun K hK => ?_)
  refine goes_ Tryd.func21 (by kernel_rfl) rfl #[.slice A0 l0.length c0, .slice A1 l1.length c1] (by rfl) rfl rfl (by first | rfl | (simp only [List.map_toArray, List.map_cons, List.map_nil]; rfl)) ?_
  with_reducible refine (HC21.out).mono ?_
  rintro e w20 ⟨v20, rfl, hv20, hb20⟩
  have hB20 : Below W9.heap.size W9 w20 := (below_drew1 (Below.refl W9.heap.size W9)).trans hb20
  obtain ⟨A20, c20, rfl⟩ := Kd.R_slice hv20
  have hS20 := txt_str (Txt.of_RB hv20 HDB.out (by rw [HDL.out]; decide))
  refine ⟨_, rfl, ?_⟩
  refine hK.out _ _ ⟨hB20, (HF.out _ (hB20)).1, (HF.out _ (hB20)).2.1, (HF.out _ (hB20)).2.2.1, (HF.out _ (hB20)).2.2.2.1, (HF.out _ (hB20)).2.2.2.2⟩ (fun hHeld => ?_)
  clear hK K
  refine norm_ (a' := ?_) ?_ ?_
  rotate_left
  · show Act.put _ (some 34) _ = _
    simp only [Act.put, List.setIfInBounds_toArray, List.set_cons_zero, List.set_cons_succ, i64_w, i32_w]
    rfl
  refine one_ (i := 5) (N := some 35) #[true, true, true, true, true, true, false, false, false, false, false, false, false, false, false, false, false, false, false, false, false, false, false, false, false, false, false, false, false, false, false] rfl rfl (by kernel_rfl) (by decide) (fun K hK => ?_)
  refine value_ (v := .string (strOfNums d)) (by rfl) rfl (conv_run rfl rfl hS20) ?_
  refine hK.out _ _ ⟨hB20, (HF.out _ (hB20)).1, (HF.out _ (hB20)).2.1, (HF.out _ (hB20)).2.2.1, (HF.out _ (hB20)).2.2.2.1, (HF.out _ (hB20)).2.2.2.2⟩ (fun hHeld => ?_)
  clear hK K
  refine norm_ (a' := ?_) ?_ ?_
  rotate_left
  · show Act.put _ (some 35) _ = _
    simp only [Act.put, List.setIfInBounds_toArray, List.set_cons_zero, List.set_cons_succ, i64_w, i32_w]
    rfl
  refine pure_ (i := 6) (N := some 36) (v := ?_) (a' := ?_) #[true, true, true, true, true, true, true, false, false, false, false, false, false, false, false, false, false, false, false, false, false, false, false, false, false, false, false, false, false, false, false] rfl rfl (by kernel_rfl) (fun _ _ _ h => h) (Or.inl ⟨by rfl, ?_⟩) ?_ ?_
  rotate_left
  · intro w'
    go_simp
    with_reducible rfl
  rotate_left
  · simp only [Act.put, List.setIfInBounds_toArray, List.set_cons_zero, List.set_cons_succ, i64_w, i32_w]
    rfl
  refine pure_ (i := 7) (N := some 37) (v := ?_) (a' := ?_) #[true, true, true, true, true, true, true, true, false, false, false, false, false, false, false, false, false, false, false, false, false, false, false, false, false, false, false, false, false, false, false] rfl rfl (by kernel_rfl) (fun _ _ _ h => h) (Or.inl ⟨by rfl, ?_⟩) ?_ ?_
  rotate_left
  · intro w'
    go_simp
    with_reducible rfl
  rotate_left
  · simp only [Act.put, List.setIfInBounds_toArray, List.set_cons_zero, List.set_cons_succ, i64_w, i32_w]
    rfl
  refine pure_ (i := 8) (N := some 38) (v := ?_) (a' := ?_) #[true, true, true, true, true, true, true, true, true, false, false, false, false, false, false, false, false, false, false, false, false, false, false, false, false, false, false, false, false, false, false] rfl rfl (by kernel_rfl) (fun _ _ _ h => h) (Or.inl ⟨by rfl, ?_⟩) ?_ ?_
  rotate_left
  · intro w'
    go_simp
    with_reducible rfl
  rotate_left
  · simp only [Act.put, List.setIfInBounds_toArray, List.set_cons_zero, List.set_cons_succ, i64_w, i32_w]
    rfl
  refine pure_ (i := 9) (N := some 39) (v := ?_) (a' := ?_) #[true, true, true, true, true, true, true, true, true, true, false, false, false, false, false, false, false, false, false, false, false, false, false, false, false, false, false, false, false, false, false] rfl rfl (by kernel_rfl) (fun _ _ _ h => h) (Or.inl ⟨by rfl, ?_⟩) ?_ ?_
  rotate_left
  · intro w'
    go_simp
    with_reducible rfl
  rotate_left
  · simp only [Act.put, List.setIfInBounds_toArray, List.set_cons_zero, List.set_cons_succ, i64_w, i32_w]
    rfl
  refine pure_ (i := 11) (N := some 41) (v := ?_) (a' := ?_) #[true, true, true, true, true, true, true, true, true, true, false, true, false, false, false, false, false, false, false, false, false, false, false, false, false, false, false, false, false, false, false] rfl rfl (by kernel_rfl) (fun _ _ _ h => h) (Or.inl ⟨by rfl, ?_⟩) ?_ ?_
  rotate_left
  · intro w'
    go_simp
    with_reducible rfl
  rotate_left
  · simp only [Act.put, List.setIfInBounds_toArray, List.set_cons_zero, List.set_cons_succ, i64_w, i32_w]
    rfl
  refine pure_ (i := 12) (N := some 42) (v := ?_) (a' := ?_) #[true, true, true, true, true, true, true, true, true, true, false, true, true, false, false, false, false, false, false, false, false, false, false, false, false, false, false, false, false, false, false] rfl rfl (by kernel_rfl) (fun _ _ _ h => h) (Or.inl ⟨by rfl, ?_⟩) ?_ ?_
  rotate_left
  · intro w'
    go_simp
    with_reducible rfl
  rotate_left
  · simp only [Act.put, List.setIfInBounds_toArray, List.set_cons_zero, List.set_cons_succ, i64_w, i32_w]
    rfl
  refine one_ (i := 10) (N := some 40) #[true, true, true, true, true, true, true, true, true, true, true, true, true, false, false, false, false, false, false, false, false, false, false, false, false, false, false, false, false, false, false] rfl rfl (by kernel_rfl) (by decide) (fun K hK => ?_)
  refine goes_ Tryd.func22 (by kernel_rfl) rfl #[.slice A13 l0.length c13, .int .i64 a2] (by rfl) rfl rfl (by first | rfl | (simp only [List.map_toArray, List.map_cons, List.map_nil]; rfl)) ?_
  with_reducible refine (HC22.out _ hB20).mono ?_
  rintro e w21 ⟨rfl, hb21⟩
  have hB21 : Below W9.heap.size W9 w21 := hB20.trans (hb21.mono hB20.size)
  refine ⟨_, rfl, ?_⟩
  refine hK.out _ _ ⟨hB21, (HF.out _ (hB21)).1, (HF.out _ (hB21)).2.1, (HF.out _ (hB21)).2.2.1, (HF.out _ (hB21)).2.2.2.1, (HF.out _ (hB21)).2.2.2.2⟩ (fun hHeld => ?_)
  clear hK K
  refine norm_ (a' := ?_) ?_ ?_
  rotate_left
  · show Act.put _ (some 40) _ = _
    simp only [Act.put, List.setIfInBounds_toArray, List.set_cons_zero, List.set_cons_succ, i64_w, i32_w]
    rfl
  refine one_ (i := 13) (N := some 43) #[true, true, true, true, true, true, true, true, true, true, true, true, true, true, false, false, false, false, false, false, false, false, false, false, false, false, false, false, false, false, false] rfl rfl (by kernel_rfl) (by decide) (fun K hK => ?_)
  refine goes_ Tryd.func23 (by kernel_rfl) rfl #[.slice A0 l0.length c0, .int .i64 a2] (by rfl) rfl rfl (by first | rfl | (simp only [List.map_toArray, List.map_cons, List.map_nil]; rfl)) ?_
  with_reducible refine (HC23.out _ hB21).mono ?_
  rintro e w22 ⟨rfl, hb22⟩
  have hB22 : Below W9.heap.size W9 w22 := hB21.trans (hb22.mono hB21.size)
  refine ⟨_, rfl, ?_⟩
  refine hK.out _ _ ⟨hB22, (HF.out _ (hB22)).1, (HF.out _ (hB22)).2.1, (HF.out _ (hB22)).2.2.1, (HF.out _ (hB22)).2.2.2.1, (HF.out _ (hB22)).2.2.2.2⟩ (fun hHeld => ?_)
  clear hK K
  refine norm_ (a' := ?_) ?_ ?_
  rotate_left
  · show Act.put _ (some 43) _ = _
    simp only [Act.put, List.setIfInBounds_toArray, List.set_cons_zero, List.set_cons_succ, i64_w, i32_w]
    rfl
  refine pure_ (i := 14) (N := some 44) (v := ?_) (a' := ?_) #[true, true, true, true, true, true, true, true, true, true, true, true, true, true, true, false, false, false, false, false, false, false, false, false, false, false, false, false, false, false, false] rfl rfl (by kernel_rfl) (fun _ _ _ h => h) (Or.inl ⟨by rfl, ?_⟩) ?_ ?_
  rotate_left
  · intro w'
    go_simp
    with_reducible rfl
  rotate_left
  · simp only [Act.put, List.setIfInBounds_toArray, List.set_cons_zero, List.set_cons_succ, i64_w, i32_w]
    rfl
  refine pure_ (i := 15) (N := some 45) (v := ?_) (a' := ?_) #[true, true, true, true, true, true, true, true, true, true, true, true, true, true, true, true, false, false, false, false, false, false, false, false, false, false, false, false, false, false, false] rfl rfl (by kernel_rfl) (fun _ _ _ h => h) (Or.inl ⟨by rfl, ?_⟩) ?_ ?_
  rotate_left
  · intro w'
    go_simp
    with_reducible rfl
  rotate_left
  · simp only [Act.put, List.setIfInBounds_toArray, List.set_cons_zero, List.set_cons_succ, i64_w, i32_w]
    rfl
  refine pure_ (i := 16) (N := some 46) (v := ?_) (a' := ?_) #[true, true, true, true, true, true, true, true, true, true, true, true, true, true, true, true, true, false, false, false, false, false, false, false, false, false, false, false, false, false, false] rfl rfl (by kernel_rfl) (fun _ _ _ h => h) (Or.inl ⟨by rfl, ?_⟩) ?_ ?_
  rotate_left
  · intro w'
    go_simp
    with_reducible rfl
  rotate_left
  · simp only [Act.put, List.setIfInBounds_toArray, List.set_cons_zero, List.set_cons_succ, i64_w, i32_w]
    rfl
  refine pure_ (i := 17) (N := some 47) (v := ?_) (a' := ?_) #[true, true, true, true, true, true, true, true, true, true, true, true, true, true, true, true, true, true, false, false, false, false, false, false, false, false, false, false, false, false, false] rfl rfl (by kernel_rfl) (fun _ _ _ h => h) (Or.inl ⟨by rfl, ?_⟩) ?_ ?_
  rotate_left
  · intro w'
    go_simp
    with_reducible rfl
  rotate_left
  · simp only [Act.put, List.setIfInBounds_toArray, List.set_cons_zero, List.set_cons_succ, i64_w, i32_w]
    rfl
  refine pure_ (i := 19) (N := some 49) (v := ?_) (a' := ?_) #[true, true, true, true, true, true, true, true, true, true, true, true, true, true, true, true, true, true, false, true, false, false, false, false, false, false, false, false, false, false, false] rfl rfl (by kernel_rfl) (fun _ _ _ h => h) (Or.inl ⟨by rfl, ?_⟩) ?_ ?_
  rotate_left
  · intro w'
    go_simp
    with_reducible rfl
  rotate_left
  · simp only [Act.put, List.setIfInBounds_toArray, List.set_cons_zero, List.set_cons_succ, i64_w, i32_w]
    rfl
  refine take_ (i := 18) (N := some 48) (v := ?_) (a' := ?_) #[true, true, true, true, true, true, true, true, true, true, true, true, true, true, true, true, true, true, true, true, false, false, false, false, false, false, false, false, false, false, false] rfl rfl (by kernel_rfl) (fun _ _ _ h => h) (Or.inl ⟨by rfl, ?_⟩) hHeld ?_ ?_
  rotate_left
  · rintro w' ⟨s0, s1, s2, s3, s4, s5⟩
    go_simp
    with_reducible rfl
  rotate_left
  · simp only [Act.put, List.setIfInBounds_toArray, List.set_cons_zero, List.set_cons_succ, i64_w, i32_w]
    rfl
  refine take_ (i := 20) (N := some 50) (v := ?_) (a' := ?_) #[true, true, true, true, true, true, true, true, true, true, true, true, true, true, true, true, true, true, true, true, true, false, false, false, false, false, false, false, false, false, false] rfl rfl (by kernel_rfl) (fun _ _ _ h => h) (Or.inl ⟨by rfl, ?_⟩) hHeld ?_ ?_
  rotate_left
  · rintro w' ⟨s0, s1, s2, s3, s4, s5⟩
    go_simp
    with_reducible rfl
  rotate_left
  · simp only [Act.put, List.setIfInBounds_toArray, List.set_cons_zero, List.set_cons_succ, i64_w, i32_w]
    rfl
  refine pure_ (i := 21) (N := some 51) (v := ?_) (a' := ?_) #[true, true, true, true, true, true, true, true, true, true, true, true, true, true, true, true, true, true, true, true, true, true, false, false, false, false, false, false, false, false, false] rfl rfl (by kernel_rfl) (fun _ _ _ h => h) (Or.inl ⟨by rfl, ?_⟩) ?_ ?_
  rotate_left
  · intro w'
    go_simp
    with_reducible rfl
  rotate_left
  · simp only [Act.put, List.setIfInBounds_toArray, List.set_cons_zero, List.set_cons_succ, i64_w, i32_w]
    rfl
  refine pure_ (i := 22) (N := some 52) (v := ?_) (a' := ?_) #[true, true, true, true, true, true, true, true, true, true, true, true, true, true, true, true, true, true, true, true, true, true, true, false, false, false, false, false, false, false, false] rfl rfl (by kernel_rfl) (fun _ _ _ h => h) (Or.inl ⟨by rfl, ?_⟩) ?_ ?_
  rotate_left
  · intro w'
    go_simp
    with_reducible rfl
  rotate_left
  · simp only [Act.put, List.setIfInBounds_toArray, List.set_cons_zero, List.set_cons_succ, i64_w, i32_w]
    rfl
  refine pure_ (i := 23) (N := some 53) (v := ?_) (a' := ?_) #[true, true, true, true, true, true, true, true, true, true, true, true, true, true, true, true, true, true, true, true, true, true, true, true, false, false, false, false, false, false, false] rfl rfl (by kernel_rfl) (fun _ _ _ h => h) (Or.inl ⟨by rfl, ?_⟩) ?_ ?_
  rotate_left
  · intro w'
    go_simp
    with_reducible rfl
  rotate_left
  · simp only [Act.put, List.setIfInBounds_toArray, List.set_cons_zero, List.set_cons_succ, i64_w, i32_w]
    rfl
  refine pure_ (i := 24) (N := some 54) (v := ?_) (a' := ?_) #[true, true, true, true, true, true, true, true, true, true, true, true, true, true, true, true, true, true, true, true, true, true, true, true, true, false, false, false, false, false, false] rfl rfl (by kernel_rfl) (fun _ _ _ h => h) (Or.inl ⟨by rfl, ?_⟩) ?_ ?_
  rotate_left
  · intro w'
    go_simp
    with_reducible rfl
  rotate_left
  · simp only [Act.put, List.setIfInBounds_toArray, List.set_cons_zero, List.set_cons_succ, i64_w, i32_w]
    rfl
  refine pure_ (i := 26) (N := some 56) (v := ?_) (a' := ?_) #[true, true, true, true, true, true, true, true, true, true, true, true, true, true, true, true, true, true, true, true, true, true, true, true, true, false, true, false, false, false, false] rfl rfl (by kernel_rfl) (fun _ _ _ h => h) (Or.inl ⟨by rfl, ?_⟩) ?_ ?_
  rotate_left
  · intro w'
    go_simp
    with_reducible rfl
  rotate_left
  · simp only [Act.put, List.setIfInBounds_toArray, List.set_cons_zero, List.set_cons_succ, i64_w, i32_w]
    rfl
  refine take_ (i := 25) (N := some 55) (v := ?_) (a' := ?_) #[true, true, true, true, true, true, true, true, true, true, true, true, true, true, true, true, true, true, true, true, true, true, true, true, true, true, true, false, false, false, false] rfl rfl (by kernel_rfl) (fun _ _ _ h => h) (Or.inl ⟨by rfl, ?_⟩) hHeld ?_ ?_
  rotate_left
  · rintro w' ⟨s0, s1, s2, s3, s4, s5⟩
    go_simp
    with_reducible rfl
  rotate_left
  · simp only [Act.put, List.setIfInBounds_toArray, List.set_cons_zero, List.set_cons_succ, i64_w, i32_w]
    rfl
  refine take_ (i := 27) (N := some 57) (v := ?_) (a' := ?_) #[true, true, true, true, true, true, true, true, true, true, true, true, true, true, true, true, true, true, true, true, true, true, true, true, true, true, true, true, false, false, false] rfl rfl (by kernel_rfl) (fun _ _ _ h => h) (Or.inl ⟨by rfl, ?_⟩) hHeld ?_ ?_
  rotate_left
  · rintro w' ⟨s0, s1, s2, s3, s4, s5⟩
    go_simp
    with_reducible rfl
  rotate_left
  · simp only [Act.put, List.setIfInBounds_toArray, List.set_cons_zero, List.set_cons_succ, i64_w, i32_w]
    rfl
  refine pure_ (i := 28) (N := some 58) (v := ?_) (a' := ?_) #[true, true, true, true, true, true, true, true, true, true, true, true, true, true, true, true, true, true, true, true, true, true, true, true, true, true, true, true, true, false, false] rfl rfl (by kernel_rfl) (fun _ _ _ h => h) (Or.inl ⟨by rfl, ?_⟩) ?_ ?_
  rotate_left
  · intro w'
    go_simp
    with_reducible rfl
  rotate_left
  · simp only [Act.put, List.setIfInBounds_toArray, List.set_cons_zero, List.set_cons_succ, i64_w, i32_w]
    rfl
  refine pure_ (i := 29) (N := some 59) (v := ?_) (a' := ?_) #[true, true, true, true, true, true, true, true, true, true, true, true, true, true, true, true, true, true, true, true, true, true, true, true, true, true, true, true, true, true, false] rfl rfl (by kernel_rfl) (fun _ _ _ h => h) (Or.inl ⟨by rfl, ?_⟩) ?_ ?_
  rotate_left
  · intro w'
    go_simp
    with_reducible rfl
  rotate_left
  · simp only [Act.put, List.setIfInBounds_toArray, List.set_cons_zero, List.set_cons_succ, i64_w, i32_w]
    rfl
  refine pure_ (i := 30) (N := some 6) (v := ?_) (a' := ?_) #[true, true, true, true, true, true, true, true, true, true, true, true, true, true, true, true, true, true, true, true, true, true, true, true, true, true, true, true, true, true, true] rfl rfl (by kernel_rfl) (fun _ _ _ h => h) (Or.inl ⟨by rfl, ?_⟩) ?_ ?_
  rotate_left
  · intro w'
    go_simp
    with_reducible rfl
  rotate_left
  · simp only [Act.put, List.setIfInBounds_toArray, List.set_cons_zero, List.set_cons_succ, i64_w, i32_w]
    rfl
  refine done_ (by kernel_rfl) ?_
  go_wp2_with fail
  go_ret
  exact ⟨rfl, HBW9.out.trans (hHeld.1.mono HBW9.out.size)⟩
theorem macSums_long (w : World) (hr : Roots w) (hcu : Cubes w) (A0 : Option Addr) (c0 : Nat) (l0 : List Int) (A1 : Option Addr) (c1 : Nat) (l1 : List Int) (a2 : Int) (h : 500 < l0.length ∨ 1000 < l1.length) :
    Calls Tryd.prog 9 #[.slice A0 l0.length c0, .slice A1 l1.length c1, .int .i64 a2] w (Yes w) := by
  have HA := Aside0.mk (alive5_calls w hr hcu)
  clear hr hcu
  by_cases h0 : 500 < l0.length
  · have n0 : decide ((500 : Int) < (l0.length : Int)) = true := by simp; omega
    clear h
    go_enter Tryd.func9, Tryd.ntmps9
    go_wp2_with fail
    refine HA.out.mono ?_
    rintro e w1 ⟨rfl, hb⟩
    have HB := Aside0.mk hb
    clear hb
    go_wp2_with fail
    go_ret
    exact ⟨rfl, HB.out⟩
  · have n0 : decide ((500 : Int) < (l0.length : Int)) = false := by simp; omega
    have n1 : decide ((1000 : Int) < (l1.length : Int)) = true := by simp; omega
    clear h
    go_enter Tryd.func9, Tryd.ntmps9
    go_wp2_with fail
    refine HA.out.mono ?_
    rintro e w1 ⟨rfl, hb⟩
    have HB := Aside0.mk hb
    clear hb
    go_wp2_with fail
    go_ret
    exact ⟨rfl, HB.out⟩
theorem macSums_walk (W : World) (A0 : Option Addr) (c0 : Nat) (l0 : (List Int)) (A1 : Option Addr) (c1 : Nat) (l1 : (List Int)) (a2 : Int) (hc0 : l0.length ≤ c0) (hr0 : Kd.C (Kd.int .u8) W A0 l0.length l0) (w0 : (∀ zl0 ∈ l0, (Lit.int .u8 zl0).wf = true)) (hc1 : l1.length ≤ c1) (hr1 : Kd.C (Kd.int .u8) W A1 l1.length l1) (w1 : (∀ zl1 ∈ l1, (Lit.int .u8 zl1).wf = true)) (w2 : (Lit.int .i64 a2).wf = true) (hL : laidMetH Tryd.prog [("weftline/weftlineref04.cube", Rows.laid_weftline_weftlineref04_cube), ("weftline/sha.roots", Rows.laid_weftline_sha_roots), ("weftline/sha.cubes", Rows.laid_weftline_sha_cubes)] W) :
    Calls Tryd.prog 9 #[.slice A0 l0.length c0, .slice A1 l1.length c1, .int .i64 a2] W fun e w' => e = .returned (.bool true) ∧ Below W.heap.size W w' := by
  obtain ⟨hrc, hr, hcu⟩ := tabs3_of hL
  by_cases h : 500 < l0.length ∨ 1000 < l1.length
  · exact macSums_long W hr hcu A0 c0 l0 A1 c1 l1 a2 h
  · exact macSums_main W hrc hr hcu A0 c0 l0 ⟨A0, c0, rfl, hc0, hr0, bytes_of_wf w0, by omega⟩ A1 c1 l1 ⟨A1, c1, rfl, hc1, hr1, bytes_of_wf w1, by omega⟩ (by omega) (by omega) a2
end Go.Proofs.YtjmgeelblodcgaaDoor.Sx
/- Opn -/
namespace Go.Proofs.YtjmgeelblodcgaaDoor.Opn
open Go.RowKit Go.Deep Go.WideShapes Go.ChangeShapes Go.Proofs.YtjmgeelblodcgaaDoorW.PrintWords
set_option linter.unusedVariables false
/-- What reads at type T is told by the kind d, and fits wf. -/
def Opn (P : Program) (w : World) (T : TypeId) {α : Type} (d : Kd α) (wf : α → Prop) : Prop :=
  ∀ {H : Type} {enc : TypeId × Value → H} {base : Nat} {spare : Nat → Bool} {held : Bool} {fuel : Nat} {cs : List Value} {y : DataW H × List MemPlace},
    DataW.trod enc P w base spare held fuel T cs = some y → ∃ x, d.K w x cs ∧ wf x

section
variable {P : Program} {w : World} {T e : TypeId} {α β : Type}
theorem int {k : IntKind} (hu : P.underlying T = some (.int k)) : Opn P w T (Kd.int k) (fun x => (Lit.int k x).wf = true) := by
  intro H enc base spare held fuel cs y h
  obtain ⟨n, rfl, _, wn⟩ := DataW.trod_int hu h
  exact ⟨n, rfl, wn⟩
theorem bool (hu : P.underlying T = some .bool) : Opn P w T Kd.bool (fun _ => True) := by
  intro H enc base spare held fuel cs y h
  obtain ⟨n, rfl, _⟩ := DataW.trod_bool hu h
  exact ⟨n, rfl, trivial⟩
theorem string (hu : P.underlying T = some .string) : Opn P w T Kd.string (fun s => s.size ≤ maxLen) := by
  intro H enc base spare held fuel cs y h
  obtain ⟨n, rfl, _, hs⟩ := DataW.trod_string hu h
  exact ⟨n, rfl, hs⟩

theorem list_of {p : Nat → α → Prop} : ∀ (n : Nat), (∀ i, i < n → ∃ x, p i x) → ∃ xs : List α, xs.length = n ∧ ∀ i x, xs[i]? = some x → p i x
  | 0, _ => ⟨[], rfl, fun i x h => by simp at h⟩
  | n + 1, h => by
    obtain ⟨xs, hl, hp⟩ := list_of n (fun i hi => h i (by omega))
    obtain ⟨x, hx⟩ := h n (by omega)
    refine ⟨xs ++ [x], by simp [hl], fun i y hy => ?_⟩
    by_cases hi : i < xs.length
    · rw [List.getElem?_append_left hi] at hy; exact hp i y hy
    · rw [List.getElem?_append_right (by omega)] at hy
      have h0 : i - xs.length = 0 := by
        rcases Nat.eq_zero_or_pos (i - xs.length) with h' | h'
        · exact h'
        · rw [List.getElem?_eq_none (by simp; omega)] at hy; cases hy
      rw [h0] at hy
      simp at hy
      subst hy
      obtain rfl : i = n := by omega
      exact hx

theorem slice {q : Nat} {d : Kd α} {wf : α → Prop} (hu : P.underlying T = some (.slice e)) (hs : P.cellsOf e = d.sz) (he : Opn P w e d wf) :
    Opn P w T (Kd.slice q d) (fun xs => ∀ x ∈ xs, wf x) := by
  intro H enc base spare held fuel cs y h
  rcases open_slice hu h with ⟨rfl, rfl⟩ | ⟨a, len, cap, m, n, D, Pl, rfl, hb, hl, hm, hmm, rfl, hx⟩
  · exact ⟨[], ⟨none, 0, rfl, Nat.le_refl _, rfl, by simp, fun h => absurd h (Nat.lt_irrefl 0)⟩, by simp⟩
  · have hlm : len ≤ m := by rw [hmm]; split <;> omega
    obtain ⟨xs, hlen, hp⟩ := list_of (p := fun i x => (∃ cs', w.cells? base (a.add (i * P.cellsOf e)) (P.cellsOf e) = some cs' ∧ d.K w x cs') ∧ wf x) len (fun i hi => by
      obtain ⟨cs', h1, h2⟩ := hx i (by omega)
      obtain ⟨x, hk, hw⟩ := he h2
      exact ⟨x, ⟨cs', h1, hk⟩, hw⟩)
    refine ⟨xs, ⟨some a, cap, by rw [hlen], by omega, rfl, by unfold maxLen at hm; omega, fun _ => ⟨a, rfl, fun j x hj => ?_⟩⟩, fun x hx' => ?_⟩
    · obtain ⟨⟨cs', h1, hk⟩, _⟩ := hp j x hj
      refine ⟨cs', d.K_len hk, hk, fun i u hu' => ?_⟩
      obtain ⟨_, hl2, hc⟩ := World.cells?_some h1
      have hi : i < cs'.length := by
        rcases Nat.lt_or_ge i cs'.length with h' | h'
        · exact h'
        · rw [List.getElem?_eq_none h'] at hu'; cases hu'
      have := hc i (by omega)
      rw [Deep.add_add, hs] at this
      rw [this]; exact hu'
    · obtain ⟨i, hi⟩ := List.getElem?_of_mem hx'
      exact (hp i x hi).2

end
end Go.Proofs.YtjmgeelblodcgaaDoor.Opn
/- RowMacSums -/
namespace Go.Proofs.YtjmgeelblodcgaaDoor.macSums
open Go.ChangeShapes Go.WideShapes Go.ChangeAt Go.RowKit Go.Proofs.YtjmgeelblodcgaaDoorW.PrintWords
open Go.ChangeMaps (open_string shut_string)
set_option linter.unusedVariables false
theorem own : ownKnob Tryd.prog.godebug = none := by kernel_rfl
theorem laidOut : laidOutB Tryd.prog = true := by kernel_rfl
theorem opn22 {W : World} : Opn.Opn Tryd.prog W 22 (Kd.slice 5 (Kd.int .u8)) (fun x => (∀ zx ∈ x, (Lit.int .u8 zx).wf = true)) := Opn.slice Tryd.underlying22 (by kernel_rfl) (Opn.int Tryd.underlying5)
theorem door_met (os : Os) (args : Array Value) : laidMetH Tryd.prog [("weftline/weftlineref04.cube", Rows.laid_weftline_weftlineref04_cube), ("weftline/sha.roots", Rows.laid_weftline_sha_roots), ("weftline/sha.cubes", Rows.laid_weftline_sha_cubes)] ((World.doorLaid Tryd.prog 24 os).forCall (fun _ _ => 0) ⟨#[], args, []⟩).memory := laidMetH_of_parts3 (fuel := 8) (laidMet_of_run' 8 (by kernel_rfl) (by kernel_rfl)) (by kernel_rfl) (by kernel_rfl)
set_option maxRecDepth 100000 in
theorem lifted (os : Os) (started : os.Started) (H : Type) (enc : TypeId × Value → H) :
    ReturnsInHanded {} Tryd.checked os 9 .any (fun w args => (Rows.macSumsSpec.pre enc Tryd.prog Tryd.f9 [] false w args ∧ laidMetH Tryd.prog [("weftline/weftlineref04.cube", Rows.laid_weftline_weftlineref04_cube), ("weftline/sha.roots", Rows.laid_weftline_sha_roots), ("weftline/sha.cubes", Rows.laid_weftline_sha_cubes)] w) ∧ sizedMet enc Tryd.prog Tryd.f9 (OpenSpec.ofChange Rows.macSumsSpec) false w args) (Rows.macSumsSpec.post enc Tryd.prog Tryd.f9 false true false false) := by
  refine returnsInHanded_of_change_and (C := Tryd.checked) (X := fun w _ => laidMetH Tryd.prog [("weftline/weftlineref04.cube", Rows.laid_weftline_weftlineref04_cube), ("weftline/sha.roots", Rows.laid_weftline_sha_roots), ("weftline/sha.cubes", Rows.laid_weftline_sha_cubes)] w) (fun _ _ _ hh h => h.of_heap hh) own started (by kernel_rfl) Tryd.func9
    (ChangeSpec.witness_shaped (enc := enc) (C := Tryd.checked) (os := os) (X := fun w _ => laidMetH Tryd.prog [("weftline/weftlineref04.cube", Rows.laid_weftline_weftlineref04_cube), ("weftline/sha.roots", Rows.laid_weftline_sha_roots), ("weftline/sha.cubes", Rows.laid_weftline_sha_cubes)] w) false (World.doorLaid Tryd.prog 24 os) #[.slice none 0 0, .slice none 0 0, .int .i64 0] 8 rfl (World.shaped_of_RefB (by kernel_rfl) (by kernel_rfl)) (by kernel_rfl) (by kernel_rfl) (by kernel_rfl) (door_met os _)) ?_
  intro W base args ds gs before hval0 hW _ _ hL _
  have hval : ∀ (j : Nat) t v, Tryd.f9.params[j]? = some t → args[j]? = some v → Value.okWide Tryd.prog W .any base t v := hval0
  have hW' := hW
  obtain ⟨p, q, hA0, hV, rfl, hfz, hnd⟩ := hW
  have hA : DataW.TrodAll enc Tryd.prog W 0 (fun _ => true) true Tryd.f9.params.toList args.toList ds p := hA0
  rw [Tryd.params9] at hA hval
  obtain ⟨v0, vs0, d0, ds0, p0, q0, hargs, rfl, rfl, h0, r0⟩ := trodAll_cons hA
  obtain ⟨v1, vs1, d1, ds1, p1, q1, rfl, rfl, rfl, h1, r1⟩ := trodAll_cons r0
  obtain ⟨v2, vs2, d2, ds2, p2, q2, rfl, rfl, rfl, h2, r2⟩ := trodAll_cons r1
  obtain ⟨rfl, rfl, rfl⟩ := trodAll_nil r2
  obtain rfl : args = #[v0, v1, v2] := by cases args; simp_all
  obtain ⟨rfl, rfl⟩ := trodVars_none hV
  have kk0 := h0
  have lt0 : ∀ x ∈ p0, x.block < W.heap.size := by obtain ⟨m, hm⟩ := kk0; exact DataW.trod_lt m _ _ _ hm
  obtain ⟨a0, len0, cap0, rfl⟩ := okWide_slice Tryd.underlying22 (hval 0 22 v0 rfl rfl)
  obtain ⟨fu0, hf0⟩ := h0
  obtain ⟨l0, ⟨A0, c0, he0, hc0, hr0⟩, w0⟩ := opn22 hf0
  simp only [Value.cells, List.cons.injEq, and_true, Value.slice.injEq] at he0
  obtain ⟨rfl, rfl, rfl⟩ := he0
  have kk1 := h1
  have lt1 : ∀ x ∈ p1, x.block < W.heap.size := by obtain ⟨m, hm⟩ := kk1; exact DataW.trod_lt m _ _ _ hm
  obtain ⟨a1, len1, cap1, rfl⟩ := okWide_slice Tryd.underlying22 (hval 1 22 v1 rfl rfl)
  obtain ⟨fu1, hf1⟩ := h1
  obtain ⟨l1, ⟨A1, c1, he1, hc1, hr1⟩, w1⟩ := opn22 hf1
  simp only [Value.cells, List.cons.injEq, and_true, Value.slice.injEq] at he1
  obtain ⟨rfl, rfl, rfl⟩ := he1
  have kk2 := h2
  have lt2 : ∀ x ∈ p2, x.block < W.heap.size := by obtain ⟨m, hm⟩ := kk2; exact DataW.trod_lt m _ _ _ hm
  obtain ⟨a2, rfl, rfl, rfl, w2⟩ := open_int Tryd.underlying3 (hval 2 3 v2 rfl rfl) h2
  clear hA0 hval0
  refine (Sx.macSums_walk W _ _ l0 _ _ l1 a2 hc0 hr0 w0 hc1 hr1 w1 w2 hL).mono fun e W' ⟨he, bel⟩ => ?_
  subst he
  exact ⟨_, rfl, _, _, _, [], _, [], hW', trodAll_mk1 (shut_bool Tryd.underlying4 _), (trodAll_cons_mk (Below.trod laidOut (by kernel_rfl) (of_decide_eq_true (by kernel_rfl)) kk0 bel lt0) (trodAll_cons_mk (Below.trod laidOut (by kernel_rfl) (of_decide_eq_true (by kernel_rfl)) kk1 bel lt1) (trodAll_cons_mk (Below.trod laidOut (by kernel_rfl) (of_decide_eq_true (by kernel_rfl)) kk2 bel lt2) trodAll_mk0))), rfl, bel.frame _, fun h => by cases h⟩
theorem over : Rows.macSumsRow.holds Tryd.pinned (OpenSpec.ofChange Rows.macSumsSpec) :=
  OpenClaim.holds_of_wide 9 Tryd.f9 rfl rfl rfl rfl rfl rfl rfl ⟨rfl, rfl, rfl, rfl, rfl⟩ rfl rfl rfl rfl rfl (by kernel_rfl) Tryd.func9 (by kernel_rfl)
    (of_decide_eq_true (by kernel_rfl)) (by unfold Func.isWrapper; first | (rw [if_pos (by decide +kernel)]; kernel_rfl) | (rw [if_neg (by decide +kernel)]; exact ⟨rfl, rfl⟩))
    (fun os started H enc _ => lifted os started H enc)
end Go.Proofs.YtjmgeelblodcgaaDoor.macSums
namespace Go.Proofs.YtjmgeelblodcgaaDoor
/-- The row, under a short name, for the claim. -/
theorem macSums_holds : Rows.MacSumsCardSaid :=
  Claim7.holds_tied_plain_at .later [] [.data, .data, .data] true (true, "e984c2e111ca315e242c5a7b081d4bccd60b12e7da62a2ce15b2eb5998a492cd") false
    macSums.over (fun _ h => by cases h) (by kernel_rfl) (fun _ h => by cases h) macSums_row_tie rfl ⟨rfl, rfl⟩ (by kernel_rfl) rfl
    (fun f fn hf hfn => by
      obtain rfl : f = 9 := Option.some.inj ((show Tryd.prog.funcNamed "weftline/weftlinelaw05.MacSums" = some 9 by kernel_rfl).symm.trans hf) |>.symm
      obtain rfl : fn = Tryd.f9 := (Option.some.inj (Tryd.func9.symm.trans hfn)).symm
      exact ⟨by kernel_rfl, fun j t ht => by
        rw [Tryd.params9] at ht
        have hm : t ∈ [22, 22, 3] := by simpa using Array.mem_of_getElem? ht
        have hall : ([22, 22, 3].all fun u => !Tryd.prog.wantsStandIn u) = true := by kernel_rfl
        exact (show Tryd.prog.wantsStandIn t = false by simpa using List.all_eq_true.1 hall t hm)⟩)
    (by kernel_rfl)
#print axioms macSums_holds
end Go.Proofs.YtjmgeelblodcgaaDoor
