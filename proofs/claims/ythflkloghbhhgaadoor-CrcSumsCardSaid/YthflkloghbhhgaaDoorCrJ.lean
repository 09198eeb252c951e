import Derived.Test.YthflkloghbhhgaaDoorCrI
/- Words for Crc's other laws (ported from seat e by tools/port.py); Grow, Concat. -/
namespace Go.Proofs.YthflkloghbhhgaaDoor.Cr
open Go.RowKit Go.Proofs.YthflkloghbhhgaaDoorW.PrintWords Go.Proofs.YthflkloghbhhgaaDoorW.PrintLast Go.Proofs.YthflkloghbhhgaaDoorW.PrintMore Go.Proofs.YthflkloghbhhgaaDoor.Sh
set_option linter.unusedVariables false
set_option linter.unusedSimpArgs false
theorem gb_below {w W : World} (h : Below w.heap.size w W) (r : Option Nat) : w.grownBy W r := ⟨h.os, h.tape, h.output, h.size, fun k hk _ => h.block k hk⟩
theorem gb_to {B : Nat} {a b : World} {r : Option Nat} (h : a.grownBy b r) (hB : B ≤ a.heap.size) (hr : ∀ k, some k = r → B ≤ k) : Below B a b :=
  ⟨h.os, h.tape, h.output, h.size, fun k hk => h.block k (Nat.lt_of_lt_of_le hk hB) (fun e => by have := hr k e; omega)⟩
theorem gb_set (w : World) (b k : Nat) (v : Value) : w.grownBy (w.setCell ⟨b, k, none⟩ v) (some b) :=
  ⟨rfl, rfl, rfl, by simp [World.setCell], fun i _ hn => Below.heap_setCell w ⟨b, k, none⟩ v i (fun e => hn (by rw [e]))⟩
theorem gb_blk {a b : World} {r : Option Nat} (h : a.grownBy b r) {k : Nat} {o : Obj} (hk : a.heap[k]? = some o) (hn : some k ≠ r) : b.heap[k]? = some o := (h.block k (blk_lt hk) hn).trans hk
/-- The first k texts, one behind the other. -/
def flat (ps : List (List Int)) : Nat → List Int
  | 0 => []
  | k + 1 => flat ps k ++ prt ps k
theorem flat_mono (ps : List (List Int)) (k j : Nat) (h : k ≤ j) : (flat ps k).length ≤ (flat ps j).length := by
  induction j with
  | zero => have : k = 0 := by omega
            subst this; exact Nat.le_refl _
  | succ j ih =>
    rcases Nat.lt_or_ge k (j + 1) with h' | h'
    · refine Nat.le_trans (ih (by omega)) ?_
      show _ ≤ (flat ps j ++ prt ps j).length
      simp
    · have : k = j + 1 := by omega
      subst this; exact Nat.le_refl _
abbrev RB (w : World) (base : Nat) (v : Value) (l : List Int) : Prop := Kd.R (Kd.int .u8) 5 w base (fun _ => True) v l
set_option maxRecDepth 100000 in
theorem grow_calls (w : World) (n : Nat) (hn : n ≤ 1048576) :
    Calls Tryd.prog 22 #[.slice none 0 0, .int .i64 n] w fun e w' => ∃ v, e = .returned v ∧ RB w' w.heap.size v [] ∧ Below w.heap.size w w' := by
  by_cases h0 : n = 0
  · subst h0
    go_enter Tryd.func22, Tryd.ntmps22
    go_wp2_with fail
    go_ret
    exact ⟨_, rfl, Kd.R_nil _ _ _ _ _, Below.refl _ _⟩
  · have hp : (0 : Int) < (n : Int) := by omega
    have HB0 := Aside0.mk (Below.refl w.heap.size w)
    have HL := Aside0.mk (show (([] : List Int).length + ((n : Int)).toNat) * 1 ≤ 140737488355328 by simp; omega)
    have hnn : ¬ (n : Int) < 0 := by omega
    go_enter Tryd.func22, Tryd.ntmps22
    go_wp2_with (first | (at_builtin; refine Kd.R_append_zeros (Kd.int .u8) (w0 := w) w.heap.size rfl (.tmp 20) (.tmp 21) 22 3 5 (.int .u8 0) 1 rfl Tryd.underlying22 (k := .i64) Tryd.underlying3 info5 rfl (by decide) (by omega) (.slice none 0 0) [] 0 (kx := .i64) (n : Int) (fun _ => True) rfl rfl rfl (fun _ _ => trivial) ?aO (by omega) ?aB ?aS ?aL ?_; (case aO => exact Kd.R_nil _ _ _ _ _); (case aB => exact HB0.out); (case aS => exact Nat.le_refl _); (case aL => exact HL.out); intro v1 w1 ho hb hg hn; have HO1 := Aside0.mk ho; have HB1 := Aside0.mk hb; clear ho hb hg hn; obtain ⟨A1, c1, rfl⟩ := Kd.R_slice HO1.out))
    go_ret
    exact ⟨_, rfl, Kd.R_take HO1.out (m := 0) (Nat.zero_le _), HB1.out⟩
set_option maxRecDepth 100000 in
theorem concat_calls (w : World) (b : Nat) (ps : List (List Int)) (n cp : Nat) (hn : n = ps.length) (hs : ps.length ≤ 1000) (hp : PartsAt w ⟨b, 0, none⟩ ps) (ht : (flat ps ps.length).length ≤ 1048576) :
    Calls Tryd.prog 21 #[.slice (some ⟨b, 0, none⟩) n cp] w fun e w' => ∃ v, e = .returned v ∧ RB w' w.heap.size v (flat ps ps.length) ∧ Below w.heap.size w w' := by
  subst hn
  have HP := Aside0.mk hp
  have HT := Aside0.mk ht
  clear hp ht
  go_enter Tryd.func21, Tryd.ntmps21
  go_wp2_with fail
  go_loop [3, 11] (fun v i => ∃ k : Nat, k ≤ ps.length ∧ i = .int .i64 k ∧ v = .int .i64 ((flat ps k).length : Nat)) (fun _ i => ps.length - (intOf i).toNat)
  case atStart => exact ⟨0, Nat.zero_le _, rfl, rfl⟩
  case round =>
    obtain ⟨k, hk, rfl, rfl⟩ := hrel
    by_cases hlt : k < ps.length
    · obtain ⟨⟨A, c2, hcell, _⟩, _⟩ := HP.out k hlt
      rw [add_row] at hcell
      have h1 := Nat.le_trans (flat_mono ps (k + 1) ps.length hlt) HT.out
      have h2 : (flat ps (k + 1)).length = (flat ps k).length + (prt ps k).length := by show (flat ps k ++ prt ps k).length = _; simp
      obtain ⟨s, hs2⟩ : ∃ s, s = (flat ps k).length := ⟨_, rfl⟩
      obtain ⟨p, hp2⟩ : ∃ s, s = (prt ps k).length := ⟨_, rfl⟩
      rw [← hs2, ← hp2] at h2
      rw [← hp2] at hcell
      rw [← hs2]
      have hb : s + p ≤ 1048576 := by omega
      have hw : wrap64 ((s : Int) + (p : Int)) = (s : Int) + (p : Int) := by unfold wrap64; omega
      have hneg : ¬ (s : Int) + (p : Int) < 0 := by omega
      have HE := Aside0.mk h2
      clear h1 h2 hs2 hp2
      go_wp2_with fail
      go_round
      case rel => exact ⟨k + 1, by omega, by go_num, by rw [HE.out]; go_num⟩
      case measure => simp [intOf]; omega
    · obtain rfl : k = ps.length := by omega
      have HG := Aside0.mk (grow_calls w (flat ps ps.length).length HT.out)
      go_wp2_with (first | (go_at_call 22; refine HG.out.mono ?_; rintro e w3 ⟨v3, rfl, hr, hb⟩; have HR3 := Aside0.mk hr; have HB3 := Aside0.mk hb; clear hr hb; obtain ⟨A3, c3, rfl⟩ := Kd.R_slice HR3.out))
      go_loopw [6, 27] (fun v i wr => ∃ (k : Nat) (A : Option Addr) (c : Nat), k ≤ ps.length ∧ i = .int .i64 k ∧ v = .slice A (flat ps k).length c ∧ Aside0 (RB wr w.heap.size v (flat ps k)) ∧ Aside0 (Below w.heap.size w wr)) (fun _ i _ => ps.length - (intOf i).toNat)
      case atStart => exact ⟨0, A3, c3, Nat.zero_le _, rfl, rfl, HR3, HB3⟩
      case round =>
        obtain ⟨k, A, c, hk, rfl, rfl, HR, HB⟩ := hrel
        by_cases hlt : k < ps.length
        · obtain ⟨⟨A2, c2, hcell, hc2, hC⟩, _, _⟩ := HP.out k hlt
          have hcell2 := pw_cell_below HB.out hcell
          rw [add_row] at hcell2
          have HC2 := Aside0.mk (Kd.C_below hC HB.out)
          have h1 := Nat.le_trans (flat_mono ps (k + 1) ps.length hlt) HT.out
          have h2 : (flat ps (k + 1)).length = (flat ps k).length + (prt ps k).length := by show (flat ps k ++ prt ps k).length = _; simp
          have HL := Aside0.mk (show ((flat ps k).length + (prt ps k).length) * 1 ≤ 140737488355328 by omega)
          clear h1 h2 hC hcell
          go_wp2_with (first | (at_builtin; refine Kd.R_append_rows (Kd.int .u8) (w0 := w) w.heap.size rfl (.tmp 31) (.tmp 32) 22 5 (.int .u8 0) 1 rfl Tryd.underlying22 info5 rfl (by decide) (by omega) (.slice A (flat ps k).length c) (flat ps k) (prt ps k) A2 (prt ps k).length c2 (fun _ => True) (fun _ => False) rfl rfl ?aO ?aR (fun _ _ h => h) (fun _ h => h.elim) (fun _ _ => trivial) ?aB ?aS ?aL ?_; (case aO => exact HR.out); (case aR => exact HC2.out); (case aB => exact HB.out); (case aS => exact HB.out.size); (case aL => exact HL.out); intro v2 w4 ho hb hg hn; have HO4 := Aside0.mk ho; have HB4 := Aside0.mk hb; clear ho hb hg hn; obtain ⟨A4, c4, rfl⟩ := Kd.R_slice HO4.out))
          go_roundw
          case rel =>
            have h := HO4.out
            rw [List.length_append] at h
            exact ⟨k + 1, A4, c4, by omega, by go_num, by rw [show flat ps (k + 1) = flat ps k ++ prt ps k from rfl, List.length_append], ⟨h⟩, HB4⟩
          case measure => simp [intOf]; omega
        · obtain rfl : k = ps.length := by omega
          go_wp2_with fail
          go_ret
          exact ⟨_, rfl, HR.out, HB.out⟩
theorem Txt.of_RB {w : World} {base : Nat} {A : Option Addr} {n c : Nat} {l : List Int} (h : RB w base (.slice A n c) l) (hb : Bytes l) (hl : l.length ≤ 1048576) : Txt w (.slice A n c) l := by
  obtain ⟨h1, h2, h3⟩ := Kd.R_reads' h
  subst h1
  exact ⟨A, c, rfl, h2, h3, hb, hl⟩
theorem rb_fresh {w : World} {base n c : Nat} {A : Option Addr} {l : List Int} (h : RB w base (.slice A n c) l) : ∀ x, A = some x → base ≤ x.block := by
  obtain ⟨inner, ho⟩ := Kd.R_own h
  rintro x rfl
  exact own_base ho x.block rfl
theorem flat_two (a b : List Int) : flat [a, b] 2 = a ++ b := rfl
def cellsB (l : List Int) : Array Value := (l.map (Value.int .u8)).toArray
theorem cellsB_size (l : List Int) : (cellsB l).size = l.length := by simp [cellsB]
theorem cellsB_set (l : List Int) (k : Nat) (v : Int) : (cellsB l).setIfInBounds k (.int .u8 v) = cellsB (l.set k v) := by simp [cellsB, List.map_set]
theorem cellsB_get (l : List Int) (k : Nat) (hk : k < l.length) : (cellsB l)[k]? = some (.int .u8 (l.getD k 0)) := by simp [cellsB, List.getElem?_eq_getElem hk]
theorem cellsB_one (l : List Int) : (cellsB l).all (·.oneCell') = true := by
  rw [Array.all_eq_true_iff_forall_mem]
  intro x hx
  simp only [cellsB, List.mem_toArray, List.mem_map] at hx
  obtain ⟨a, _, rfl⟩ := hx
  rfl
/-- A whole row loaded, stored, in a plain region. -/
theorem load_whole {P : Program} {ops : Array Oper} {rest : List Oper} {o : Oper} {a : Act} {Q : Exit → Act → World → Prop} {W : World} {t : TypeId} {s : Operand} {g : Nat} {v : Value} (hgd : o.guard = none) (ho : o.op = .load t s) (hs : a.eval s = .pointer (some ⟨g, 0, none⟩)) (hl : (loadVar t ⟨g, 0, none⟩).run P W = .ok v W) (h : wpList P ops Q rest (a.put o.dst v) W) : wpList P ops Q (o :: rest) a W := by
  refine Kd.event_run hgd ?_ h
  unfold execOp
  simp only [ho, hs, Instr.loadAt, Instr.sureAddr, Sem.run_bind, Sem.run_pure, Result.andThen_ok, hl]
theorem store_whole {P : Program} {ops : Array Oper} {rest : List Oper} {o : Oper} {a : Act} {Q : Exit → Act → World → Prop} {W W1 : World} {t : TypeId} {s x : Operand} {g : Nat} {v : Value} (hgd : o.guard = none) (ho : o.op = .store t s x) (hs : a.eval s = .pointer (some ⟨g, 0, none⟩)) (hx : a.eval x = v) (hl : (storeVar t ⟨g, 0, none⟩ v).run P W = .ok () W1) (h : wpList P ops Q rest (a.put o.dst undef) W1) : wpList P ops Q (o :: rest) a W := by
  refine wpList_plain hgd fun K hK => ?_
  unfold Oper.wp execOp
  simp only [ho, hs, hx, Instr.storeAt, Instr.sureAddr, Sem.run_bind, Sem.run_pure, Result.andThen_ok, hl]
  exact hK _ _ h
theorem own_form {w : World} {base n c : Nat} {A : Option Addr} {l : List Int} (h : RB w base (.slice A n c) l) : l = [] ∨ ∃ g, A = some ⟨g, 0, none⟩ := by
  obtain ⟨inner, ho⟩ := Kd.R_own h
  rcases ho.2 with ⟨he, hn⟩ | ⟨g, cap, cur, he, _⟩
  · left
    injection he with _ h2
    have h3 := (Kd.R_reads' h).1
    exact List.eq_nil_of_length_eq_zero (by omega)
  · right
    injection he with h1
    exact ⟨g, h1⟩
theorem store_at {P : Program} {ops : Array Oper} {rest : List Oper} {o : Oper} {a : Act} {Q : Exit → Act → World → Prop} {W W1 : World} {t : TypeId} {s x : Operand} {g i : Nat} {v : Value} (hgd : o.guard = none) (ho : o.op = .store t s x) (hs : a.eval s = .pointer (some ⟨g, i, none⟩)) (hx : a.eval x = v) (hl : (storeVar t ⟨g, i, none⟩ v).run P W = .ok () W1) (h : wpList P ops Q rest (a.put o.dst undef) W1) : wpList P ops Q (o :: rest) a W := by
  refine wpList_plain hgd fun K hK => ?_
  unfold Oper.wp execOp
  simp only [ho, hs, hx, Instr.storeAt, Instr.sureAddr, Sem.run_bind, Sem.run_pure, Result.andThen_ok, hl]
  exact hK _ _ h
theorem txt_str {W : World} {A : Option Addr} {n c : Nat} {l : List Int} (h : Txt W (.slice A n c) l) : (convert 22 9 (.slice A n c)).run Tryd.prog W = .ok (.string (strOfNums l)) W := by
  obtain ⟨A9, c9, he, _, h9, _⟩ := h
  simp only [Value.slice.injEq] at he
  obtain ⟨rfl, rfl, rfl⟩ := he
  exact Kd.C_string Tryd.underlying22 Tryd.underlying5 Tryd.underlying9 h9
theorem txt_C {W : World} {A : Option Addr} {n c : Nat} {l : List Int} (h : Txt W (.slice A n c) l) : Kd.C (Kd.int .u8) W A n l ∧ n = l.length ∧ n ≤ c := by
  obtain ⟨A9, c9, he, h8, h9, _⟩ := h
  simp only [Value.slice.injEq] at he
  obtain ⟨rfl, rfl, rfl⟩ := he
  exact ⟨h9, rfl, h8⟩
theorem store_byteT (w : World) (o i t : Nat) (d : List Int) (hg : w.heap[o]? = some (.cells (cellsB d) t (0, 0))) (hi : i < d.length) (v : Int) :
    (storeVar 5 ⟨o, i, none⟩ (.int .u8 v)).run Tryd.prog w = .ok () (w.setCell ⟨o, i, none⟩ (.int .u8 v)) ∧ (w.setCell ⟨o, i, none⟩ (.int .u8 v)).heap[o]? = some (.cells (cellsB (d.set i v)) t (0, 0)) := by
  have c := (blk_cell hg i).trans (cellsB_get d i hi)
  have f := blk_frozen hg i
  refine ⟨?_, blk_put hg i _ (cellsB_set d i v)⟩
  go_simp
theorem conv_run {P : Program} {o : Oper} {a : Act} {W : World} {t u : TypeId} {s : Operand} {v r : Value} (ho : o.op = .convert t u s) (hs : a.eval s = v) (hl : (convert t u v).run P W = .ok r W) : (execOp a.eval o).run P W = .ok (.value r) W := by
  unfold execOp
  simp only [ho, hs, Sem.run_bind, Sem.run_pure, Result.andThen_ok, hl]
/-- A text at a block's head. -/
theorem txt_pre {w : World} {b t : Nat} {fr : Nat × Nat} {l : List Int} {cs : Array Value} (n c : Nat) (hn : n = l.length) (hc : n ≤ c) (h : w.heap[b]? = some (.cells cs t fr)) (hv : ∀ j, j < l.length → cs[j]? = some (.int .u8 (l.getD j 0))) (hl : l.length ≤ 1048576) (hb : Bytes l) : Txt w (.slice (some ⟨b, 0, none⟩) n c) l := by
  subst hn
  refine ⟨_, _, rfl, hc, ⟨rfl, by omega, fun _ => ⟨_, rfl, fun j p hj => ⟨[.int .u8 p], rfl, rfl, fun i u hu => ?_⟩⟩⟩, hb, hl⟩
  have hi : i = 0 := by
    cases i with
    | zero => rfl
    | succ n => simp at hu
  subst hi
  have hu' : Value.int .u8 p = u := by simpa using hu
  subst hu'
  have hjl : j < l.length := by
    rcases Nat.lt_or_ge j l.length with h | h
    · exact h
    · rw [List.getElem?_eq_none h] at hj; cases hj
  rw [add_row, show j * (Kd.int .u8).sz + 0 = j from Nat.mul_one j, Joins.cell_of_block h j, hv j hjl, List.getD_eq_getElem?_getD, hj]
  rfl
theorem Txt.cells {w : World} {A : Option Addr} {c n : Nat} {l : List Int} (h : Txt w (.slice A n c) l) (j : Nat) (hj : j < l.length) : ∃ ad, A = some ad ∧ w.cell? (ad.add j) = some (.int .u8 (rd l (j : Int))) := by
  obtain ⟨A1, c1, he, h2, h3, h4⟩ := h
  simp only [Value.slice.injEq] at he
  obtain ⟨rfl, _⟩ := he
  obtain ⟨ad, h5, h6⟩ := Kd.at_int h3 (j : Int) (by omega) (by omega)
  rw [Int.toNat_natCast] at h6
  exact ⟨ad, h5, h6⟩
theorem store_run {P : Program} {o : Oper} {a : Act} {W W1 : World} {t : TypeId} {s x : Operand} {g : Nat} {v : Value} (ho : o.op = .store t s x) (hs : a.eval s = .pointer (some ⟨g, 0, none⟩)) (hx : a.eval x = v) (hl : (storeVar t ⟨g, 0, none⟩ v).run P W = .ok () W1) : (execOp a.eval o).run P W = .ok .skip W1 := by
  unfold execOp
  simp only [ho, hs, hx, Instr.storeAt, Instr.sureAddr, Sem.run_bind, Sem.run_pure, Result.andThen_ok, hl]
theorem load_run {P : Program} {o : Oper} {a : Act} {W : World} {t : TypeId} {s : Operand} {g : Nat} {v : Value} (ho : o.op = .load t s) (hs : a.eval s = .pointer (some ⟨g, 0, none⟩)) (hl : (loadVar t ⟨g, 0, none⟩).run P W = .ok v W) : (execOp a.eval o).run P W = .ok (.value v) W := by
  unfold execOp
  simp only [ho, hs, Instr.loadAt, Instr.sureAddr, Sem.run_bind, Sem.run_pure, Result.andThen_ok, hl]
theorem map_byte_inj : ∀ {a b : List Int}, Bytes a → Bytes b → a.map (fun n => UInt8.ofNat n.toNat) = b.map (fun n => UInt8.ofNat n.toNat) → a = b
  | [], [], _, _, _ => rfl
  | [], _ :: _, _, _, h => by simp at h
  | _ :: _, [], _, _, h => by simp at h
  | x :: a, y :: b, ha, hb, h => by
    rw [List.map_cons, List.map_cons] at h
    injection h with h1 h2
    have hx := ha x (by simp)
    have hy := hb y (by simp)
    have h3 := congrArg UInt8.toNat h1
    rw [UInt8.toNat_ofNat', UInt8.toNat_ofNat'] at h3
    have : x = y := by omega
    rw [this, map_byte_inj (fun z hz => ha z (by simp [hz])) (fun z hz => hb z (by simp [hz])) h2]
theorem str_beq {a b : List Int} (ha : Bytes a) (hb : Bytes b) : ((strOfNums a).toList == (strOfNums b).toList) = decide (a = b) := by
  rw [ByteArray.toList_eq, ByteArray.toList_eq, strOfNums_data, strOfNums_data]
  by_cases h : a = b
  · rw [h]; simp
  · rw [decide_eq_false h]
    simp only [beq_eq_false_iff_ne, ne_eq]
    exact fun e => h (map_byte_inj ha hb e)
theorem rb_block {w : World} {base g n c : Nat} {l : List Int} (h : RB w base (.slice (some ⟨g, 0, none⟩) n c) l) : ∃ cur, w.heap[g]? = some (.cells cur 5 (0, 0)) ∧ l.length ≤ c ∧ base ≤ g ∧ ∀ j, j < l.length → cur[j]? = some (.int .u8 (l.getD j 0)) := by
  obtain ⟨cur, hc⟩ := Kd.R_typed h g rfl
  obtain ⟨h1, h2, _⟩ := Kd.R_reads' h
  refine ⟨cur, hc, by omega, rb_fresh h _ rfl, fun j hj => ?_⟩
  obtain ⟨cs, _, hM, hcell, _⟩ := Kd.R_elem h (0 : Int) (j : Int) (by omega) (by omega)
  have h5 : cs = [.int .u8 (l.getD (j : Int).toNat 0)] := hM
  subst h5
  have h6 := hcell 0 _ rfl
  rw [Joins.cell_of_block hc, show (j : Int).toNat * (Kd.int .u8).sz + 0 = j from by show (j : Int).toNat * 1 + 0 = j; omega] at h6
  rw [h6, Int.toNat_natCast]
end Go.Proofs.YthflkloghbhhgaaDoor.Cr
