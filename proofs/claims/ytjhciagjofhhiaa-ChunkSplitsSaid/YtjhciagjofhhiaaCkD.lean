import Derived.Test.YtjhciagjofhhiaaCkC
/- chunk: Bytes of the example's chunk. -/
namespace Go.Proofs.Ytjhciagjofhhiaa.Ck
open Go.RowKit Go.Proofs.YtjhciagjofhhiaaW.PrintWords Go.Proofs.YtjhciagjofhhiaaW.PrintLast Go.Proofs.YtjhciagjofhhiaaW.PrintMore Go.Proofs.Ytjhciagjofhhiaa.Sh Go.Proofs.Ytjhciagjofhhiaa.Tl
set_option linter.unusedVariables false
set_option linter.unusedSimpArgs false
/-- The chunk's box, an Out at p. -/
structure BS (w : World) (g p : Nat) (L : List Int) (wr : World) : Prop where
  out : OW w p L wr
  box : wr.heap[g]? = some (KO 11)
theorem BS.below {w wr w2 : World} {g p : Nat} {L : List Int} (h : BS w g p L wr) (hb : Below wr.heap.size wr w2) : BS w g p L w2 := ⟨h.out.below hb, blk_below h.box hb⟩
theorem BS.puts {w wr w2 : World} {g p : Nat} {L L2 : List Int} {e : Ending} {v : Value} (h : BS w g p L wr) (hv : OutAt wr w.heap.size p v L) (hp : Puts wr w.heap.size p v L2 e w2) : (∃ u, e = .returned u) ∧ BS w g p L2 w2 := by
  obtain ⟨he, v', ho, hc, hf⟩ := hp
  exact ⟨he, OW.puts hv h.out.2 ⟨v', ho, hc, hf⟩, Chg.kp (by decide) (by decide) hv hc g _ h.box⟩
theorem BS.num {w wr : World} {g p : Nat} {L : List Int} (h : BS w g p L wr) (n : Nat) (s : Int) (hl : L.length + 8 ≤ 1048576) : Calls Try.prog 13 #[.pointer (some ⟨p, 0, none⟩), .int .u64 (n : Nat), .int .i64 s] wr fun e w' => (∃ u, e = .returned u) ∧ BS w g p (L ++ nbz n s) w' := by
  obtain ⟨v, hv⟩ := h.out.1
  exact (num_calls hv n s hl).mono (fun e w' hp => h.puts hv hp)
theorem BS.put {w wr : World} {g p : Nat} {L : List Int} (h : BS w g p L wr) (A : Option Addr) (c : Nat) (l : List Int) (hc : l.length ≤ c) (hC : Kd.C (Kd.int .u8) wr A l.length l) (hl : L.length + l.length ≤ 1048576) : Calls Try.prog 15 #[.pointer (some ⟨p, 0, none⟩), .slice A l.length c] wr fun e w' => (∃ u, e = .returned u) ∧ BS w g p (L ++ l) w' := by
  obtain ⟨v, hv⟩ := h.out.1
  exact (put_calls hv A c l hc hC hl).mono (fun e w' hp => h.puts hv hp)
theorem BS.pad {w wr : World} {g p : Nat} {L : List Int} (h : BS w g p L wr) (hl : L.length + 8 ≤ 1048576) : Calls Try.prog 16 #[.pointer (some ⟨p, 0, none⟩)] wr fun e w' => (∃ u, e = .returned u) ∧ BS w g p (padL L) w' := by
  obtain ⟨v, hv⟩ := h.out.1
  exact (pad_calls hv hl).mono (fun e w' hp => h.puts hv hp)
theorem BS.bytes {w wr : World} {g p : Nat} {L : List Int} (h : BS w g p L wr) (hl : L.length ≤ 1048576) : Calls Try.prog 18 #[.pointer (some ⟨p, 0, none⟩)] wr fun e w' => ∃ A c, e = .returned (.slice A L.length c) ∧ RB w' wr.heap.size (.slice A L.length c) L ∧ BS w g p L w' ∧ Below wr.heap.size wr w' := by
  obtain ⟨v, hv⟩ := h.out.1
  exact (bytes_calls hv hl).mono (fun e w' ⟨A, c, he, hR, hB⟩ => ⟨A, c, he, hR, h.below hB, hB⟩)
/-- A second Out. -/
theorem BS.new {w wr : World} {g p : Nat} {L : List Int} (h : BS w g p L wr) : BS w g wr.heap.size [] (wr.alloc (.cells #[nilS] 28)) :=
  ⟨⟨⟨nilS, h.out.2.size, blk_new _ _, Kd.R_nil _ _ _ _ _⟩, h.out.2.alloc h.out.2.size _⟩, blk_alloc h.box _⟩
theorem c_none (w : World) (A : Option Addr) : Kd.C (Kd.int .u8) w A 0 [] := ⟨rfl, by decide, fun h => absurd h (by decide)⟩
theorem bytes_end : padL (((([] ++ nbz 11 1) ++ nbz 0 1) ++ nbz 4 2) ++ []) = [11, 0, 0, 4] := by decide
set_option maxRecDepth 100000 in
set_option maxHeartbeats 4000000 in
theorem bytes_11 (w : World) : Calls Try.prog 42 #[KC 11] w fun e w' => ∃ A c, e = .returned (.tuple #[.slice A 4 c, .nilIface]) ∧ RB w' w.heap.size (.slice A 4 c) [11, 0, 0, 4] ∧ Below w.heap.size w w' := by
  have HX1 := Aside0.mk (blk_new w (KO 11))
  have HB1 := Aside0.mk ((Below.refl w.heap.size w).alloc (Nat.le_refl _) (KO 11))
  have HL1 := Aside0.mk (load89 HX1.out)
  go_enter Try.func42, Try.ntmps42
  go_wp2_with (first | ((with_reducible refine gate_dst (N := 9) rfl ?_); refine load_whole rfl rfl rfl HL1.out ?_))
  refine (good_11 _).mono ?_
  rintro e w2 ⟨rfl, hb2⟩
  have HX2 := Aside0.mk (blk_below HX1.out hb2)
  have HB2 := Aside0.mk (below_step HB1.out hb2)
  have HS3 := Aside0.mk (show BS w w.heap.size w2.heap.size [] (w2.alloc (.cells #[nilS] 28)) from ⟨⟨⟨nilS, HB2.out.size, blk_new _ _, Kd.R_nil _ _ _ _ _⟩, HB2.out.alloc HB2.out.size _⟩, blk_alloc HX2.out _⟩)
  have HL3 := Aside0.mk (load89 HS3.out.box)
  clear hb2
  go_wp2_with (first | ((with_reducible refine gate_dst (N := 16) rfl ?_); refine load_whole rfl rfl rfl HL3.out ?_))
  refine (fixed_11 _ _).mono ?_
  rintro e w4 ⟨⟨u4, rfl⟩, hb4⟩
  have HS4 := Aside0.mk (HS3.out.below hb4)
  have HL4 := Aside0.mk (load89 HS4.out.box)
  obtain ⟨p, hp⟩ : ∃ p, p = w2.heap.size := ⟨_, rfl⟩
  rw [← hp] at HS4 ⊢
  clear hb4 hp
  go_wp2_with (first | ((with_reducible refine gate_dst (N := 19) rfl ?_); refine load_whole rfl rfl rfl HL4.out ?_))
  refine (params_11 _).mono ?_
  rintro e w5 ⟨rfl, hb5⟩
  have HS5 := Aside0.mk (HS4.out.below hb5)
  clear hb5
  go_wp2_with fail
  refine (write_calls w5 none 0 [] (Nat.le_refl _) ⟨rfl, by decide, fun h => absurd h (by decide)⟩ (by decide)).mono ?_
  rintro e w6 ⟨hb6, h6⟩
  have HS6 := Aside0.mk (HS5.out.below hb6)
  clear hb6
  rcases h6 with ⟨_, A6, c6, rfl, hR6⟩ | ⟨hn, _⟩
  · have HW6 := Aside0.mk (Kd.R_reads' hR6)
    clear hR6
    rw [show wr [] = [] from rfl] at HW6 ⊢
    go_wp2_with fail
    refine (HS6.out.put A6 c6 [] HW6.out.2.1 HW6.out.2.2 (by decide)).mono ?_
    rintro e w7 ⟨⟨u7, rfl⟩, hs7⟩
    have HS7 := Aside0.mk hs7
    clear hs7
    go_wp2_with fail
    refine (HS7.out.bytes (by decide)).mono ?_
    rintro e w8 ⟨A8, c8, rfl, hR8, hs8, hb8⟩
    have HS9 := Aside0.mk hs8.new
    have hx9 := kc HS9.out.box
    clear hR8 hs8 hb8
    go_wp2_with fail
    refine (HS9.out.num 11 1 (by decide)).mono ?_
    rintro e wa ⟨⟨ua, rfl⟩, hsa⟩
    have HSa := Aside0.mk hsa
    have HLa := Aside0.mk (load89 hsa.box)
    obtain ⟨p2, hp2⟩ : ∃ p, p = w8.heap.size := ⟨_, rfl⟩
    rw [← hp2] at HSa ⊢
    clear hsa hp2 hx9
    go_wp2_with (first | ((with_reducible refine gate_dst (N := 40) rfl ?_); refine load_whole rfl rfl rfl HLa.out ?_))
    refine (flags_11 _).mono ?_
    rintro e wb ⟨rfl, hbb⟩
    have HSb := Aside0.mk (HSa.out.below hbb)
    clear hbb
    go_wp2_with fail
    refine (HSb.out.num 0 1 (by decide)).mono ?_
    rintro e wc ⟨⟨uc, rfl⟩, hsc⟩
    have HSc := Aside0.mk hsc
    clear hsc
    go_wp2_with fail
    refine (HSc.out.num 4 2 (by decide)).mono ?_
    rintro e wd ⟨⟨ud, rfl⟩, hsd⟩
    have HSd := Aside0.mk hsd
    clear hsd
    go_wp2_with fail
    refine (HSd.out.put A8 c8 [] (Nat.zero_le _) (c_none _ _) (by decide)).mono ?_
    rintro e we ⟨⟨ue, rfl⟩, hse⟩
    have HSe := Aside0.mk hse
    clear hse
    go_wp2_with fail
    refine (HSe.out.pad (by decide)).mono ?_
    rintro e wf ⟨⟨uf, rfl⟩, hsf⟩
    have HSf := Aside0.mk hsf
    clear hsf
    rw [bytes_end] at HSf
    go_wp2_with fail
    refine (HSf.out.bytes (by decide)).mono ?_
    rintro e wg ⟨Ag, cg, rfl, hRg, hsg, hbg⟩
    have HRg := Aside0.mk (show RB wg w.heap.size (.slice Ag 4 cg) [11, 0, 0, 4] from Kd.R_lower hRg HSf.out.out.2.size)
    have HBg := Aside0.mk hsg.out.2
    clear hRg hsg hbg
    go_wp2_with fail
    go_ret2
    exact ⟨Ag, cg, rfl, HRg.out, HBg.out⟩
  · exact absurd (fun p hp => by simp at hp) hn
end Go.Proofs.Ytjhciagjofhhiaa.Ck
