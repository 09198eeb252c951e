import Derived.Test.YtjhciagjofhhiaaTlA
import Derived.Test.YtjhciagjofhhiaaProg
import Derived.WalkKit
import Derived.Lib.SmallJoins
import Derived.WalkSpells
import Derived.WalkLawsBesides
import Derived.Outline
import Derived.Deep.QuietTactic
import Derived.BigQuiet
import Derived.Deep.RegionWith
import Derived.RegionTactic
import Derived.StillTailTactics
import Derived.Test.YtjhciagjofhhiaaSh
import Derived.Test.YtjhciagjofhhiaaWQPut
import Derived.Test.YtjhciagjofhhiaaWLast
import Derived.Test.YtjhciagjofhhiaaWMore
/- Words (ported from seat e by tools/port.py); Clone; what is put out. -/
namespace Go.Proofs.Ytjhciagjofhhiaa.Tl
open Go.RowKit Go.Proofs.YtjhciagjofhhiaaW.PrintWords Go.Proofs.YtjhciagjofhhiaaW.PrintLast Go.Proofs.YtjhciagjofhhiaaW.PrintMore Go.Proofs.Ytjhciagjofhhiaa.Sh
set_option linter.unusedVariables false
set_option linter.unusedSimpArgs false
theorem blk_new_at (w : World) (o : Obj) (b : Nat) (h : b = w.heap.size) : (w.alloc o).heap[b]? = some o := by subst h; exact blk_new w o
theorem gb_below {w W : World} (h : Below w.heap.size w W) (r : Option Nat) : w.grownBy W r := ⟨h.os, h.tape, h.output, h.size, fun k hk _ => h.block k hk⟩
theorem gb_trans {a b c : World} {r r' : Option Nat} (h : a.grownBy b r) (h' : b.grownBy c r') (hr : ∀ k, some k = r' → some k = r ∨ a.heap.size ≤ k) : a.grownBy c r :=
  ⟨h'.os.trans h.os, h'.tape.trans h.tape, h'.output.trans h.output, Nat.le_trans h.size h'.size, fun k hk hn => (h'.block k (Nat.lt_of_lt_of_le hk h.size) (fun e => by
    rcases hr k e with e2 | e2
    · exact hn e2
    · omega)).trans (h.block k hk hn)⟩
theorem gb_to {B : Nat} {a b : World} {r : Option Nat} (h : a.grownBy b r) (hB : B ≤ a.heap.size) (hr : ∀ k, some k = r → B ≤ k) : Below B a b :=
  ⟨h.os, h.tape, h.output, h.size, fun k hk => h.block k (Nat.lt_of_lt_of_le hk hB) (fun e => by have := hr k e; omega)⟩
theorem gb_set (w : World) (b k : Nat) (v : Value) : w.grownBy (w.setCell ⟨b, k, none⟩ v) (some b) :=
  ⟨rfl, rfl, rfl, by simp [World.setCell], fun i _ hn => Below.heap_setCell w ⟨b, k, none⟩ v i (fun e => hn (by rw [e]))⟩
theorem gb_blk {a b : World} {r : Option Nat} (h : a.grownBy b r) {k : Nat} {o : Obj} (hk : a.heap[k]? = some o) (hn : some k ≠ r) : b.heap[k]? = some o := (h.block k (blk_lt hk) hn).trans hk
theorem info5 : (Try.prog.info? 5).map (fun i => (i.zero, i.size, i.bytes)) = some (some (.int .u8 0), 1, 1) := by kernel_rfl
def Bytes (l : List Int) : Prop := ∀ x ∈ l, 0 ≤ x ∧ x < 256
theorem add_row (b k : Nat) : (⟨b, 0, none⟩ : Addr).add k = ⟨b, k, none⟩ := by
  unfold Addr.add
  split
  · subst_vars; rfl
  · simp
/-- A text that is read: its slice. -/
def Txt (w : World) (v : Value) (l : List Int) : Prop := ∃ A c, v = .slice A l.length c ∧ l.length ≤ c ∧ Kd.C (Kd.int .u8) w A l.length l ∧ Bytes l ∧ l.length ≤ 1048576
theorem Txt.below {w W : World} {v : Value} {l : List Int} (h : Txt w v l) (hb : Below w.heap.size w W) : Txt W v l := by
  obtain ⟨A, c, h1, h2, h3, h4⟩ := h
  exact ⟨A, c, h1, h2, Kd.C_below h3 hb, h4⟩
theorem txt_nil (w : World) : Txt w (.slice none 0 0) [] := ⟨none, 0, rfl, Nat.le_refl _, ⟨rfl, by decide, fun h => absurd h (by decide)⟩, fun x hx => by simp at hx, by decide⟩
abbrev RB (w : World) (base : Nat) (v : Value) (l : List Int) : Prop := Kd.R (Kd.int .u8) 5 w base (fun _ => True) v l
theorem Txt.of_RB {w : World} {base : Nat} {A : Option Addr} {n c : Nat} {l : List Int} (h : RB w base (.slice A n c) l) (hb : Bytes l) (hl : l.length ≤ 1048576) : Txt w (.slice A n c) l := by
  obtain ⟨h1, h2, h3⟩ := Kd.R_reads' h
  subst h1
  exact ⟨A, c, rfl, h2, h3, hb, hl⟩
theorem rb_fresh {w : World} {base n c : Nat} {A : Option Addr} {l : List Int} (h : RB w base (.slice A n c) l) : ∀ x, A = some x → base ≤ x.block := by
  obtain ⟨inner, ho⟩ := Kd.R_own h
  rintro x rfl
  exact own_base ho x.block rfl
def cellsB (l : List Int) : Array Value := (l.map (Value.int .u8)).toArray
theorem cellsB_size (l : List Int) : (cellsB l).size = l.length := by simp [cellsB]
theorem cellsB_set (l : List Int) (k : Nat) (v : Int) : (cellsB l).setIfInBounds k (.int .u8 v) = cellsB (l.set k v) := by simp [cellsB, List.map_set]
theorem cellsB_get (l : List Int) (k : Nat) (hk : k < l.length) : (cellsB l)[k]? = some (.int .u8 (l.getD k 0)) := by simp [cellsB, List.getElem?_eq_getElem hk]
theorem cellsB_one (l : List Int) : (cellsB l).all (·.oneCell') = true := by
  rw [Array.all_eq_true_iff_forall_mem]
  intro x hx
  simp only [cellsB, List.mem_toArray, List.mem_map] at hx
  obtain ⟨a, _, rfl⟩ := hx
  rfl
/-- A whole row loaded, stored, in a plain region. -/
theorem load_whole {P : Program} {ops : Array Oper} {rest : List Oper} {o : Oper} {a : Act} {Q : Exit → Act → World → Prop} {W : World} {t : TypeId} {s : Operand} {g : Nat} {v : Value} (hgd : o.guard = none) (ho : o.op = .load t s) (hs : a.eval s = .pointer (some ⟨g, 0, none⟩)) (hl : (loadVar t ⟨g, 0, none⟩).run P W = .ok v W) (h : wpList P ops Q rest (a.put o.dst v) W) : wpList P ops Q (o :: rest) a W := by
  refine Kd.event_run hgd ?_ h
  unfold execOp
  simp only [ho, hs, Instr.loadAt, Instr.sureAddr, Sem.run_bind, Sem.run_pure, Result.andThen_ok, hl]
theorem store_whole {P : Program} {ops : Array Oper} {rest : List Oper} {o : Oper} {a : Act} {Q : Exit → Act → World → Prop} {W W1 : World} {t : TypeId} {s x : Operand} {g : Nat} {v : Value} (hgd : o.guard = none) (ho : o.op = .store t s x) (hs : a.eval s = .pointer (some ⟨g, 0, none⟩)) (hx : a.eval x = v) (hl : (storeVar t ⟨g, 0, none⟩ v).run P W = .ok () W1) (h : wpList P ops Q rest (a.put o.dst undef) W1) : wpList P ops Q (o :: rest) a W := by
  refine wpList_plain hgd fun K hK => ?_
  unfold Oper.wp execOp
  simp only [ho, hs, hx, Instr.storeAt, Instr.sureAddr, Sem.run_bind, Sem.run_pure, Result.andThen_ok, hl]
  exact hK _ _ h
theorem own_form {w : World} {base n c : Nat} {A : Option Addr} {l : List Int} (h : RB w base (.slice A n c) l) : l = [] ∨ ∃ g, A = some ⟨g, 0, none⟩ := by
  obtain ⟨inner, ho⟩ := Kd.R_own h
  rcases ho.2 with ⟨he, hn⟩ | ⟨g, cap, cur, he, _⟩
  · left
    injection he with _ h2
    have h3 := (Kd.R_reads' h).1
    exact List.eq_nil_of_length_eq_zero (by omega)
  · right
    injection he with h1
    exact ⟨g, h1⟩
theorem store_at {P : Program} {ops : Array Oper} {rest : List Oper} {o : Oper} {a : Act} {Q : Exit → Act → World → Prop} {W W1 : World} {t : TypeId} {s x : Operand} {g i : Nat} {v : Value} (hgd : o.guard = none) (ho : o.op = .store t s x) (hs : a.eval s = .pointer (some ⟨g, i, none⟩)) (hx : a.eval x = v) (hl : (storeVar t ⟨g, i, none⟩ v).run P W = .ok () W1) (h : wpList P ops Q rest (a.put o.dst undef) W1) : wpList P ops Q (o :: rest) a W := by
  refine wpList_plain hgd fun K hK => ?_
  unfold Oper.wp execOp
  simp only [ho, hs, hx, Instr.storeAt, Instr.sureAddr, Sem.run_bind, Sem.run_pure, Result.andThen_ok, hl]
  exact hK _ _ h
theorem txt_str {W : World} {A : Option Addr} {n c : Nat} {l : List Int} (h : Txt W (.slice A n c) l) : (convert 26 9 (.slice A n c)).run Try.prog W = .ok (.string (strOfNums l)) W := by
  obtain ⟨A9, c9, he, _, h9, _⟩ := h
  simp only [Value.slice.injEq] at he
  obtain ⟨rfl, rfl, rfl⟩ := he
  exact Kd.C_string Try.underlying26 Try.underlying5 Try.underlying9 h9
theorem txt_C {W : World} {A : Option Addr} {n c : Nat} {l : List Int} (h : Txt W (.slice A n c) l) : Kd.C (Kd.int .u8) W A n l ∧ n = l.length ∧ n ≤ c := by
  obtain ⟨A9, c9, he, h8, h9, _⟩ := h
  simp only [Value.slice.injEq] at he
  obtain ⟨rfl, rfl, rfl⟩ := he
  exact ⟨h9, rfl, h8⟩
theorem store_byteT (w : World) (o i t : Nat) (d : List Int) (hg : w.heap[o]? = some (.cells (cellsB d) t (0, 0))) (hi : i < d.length) (v : Int) :
    (storeVar 5 ⟨o, i, none⟩ (.int .u8 v)).run Try.prog w = .ok () (w.setCell ⟨o, i, none⟩ (.int .u8 v)) ∧ (w.setCell ⟨o, i, none⟩ (.int .u8 v)).heap[o]? = some (.cells (cellsB (d.set i v)) t (0, 0)) := by
  have c := (blk_cell hg i).trans (cellsB_get d i hi)
  have f := blk_frozen hg i
  refine ⟨?_, blk_put hg i _ (cellsB_set d i v)⟩
  go_simp
theorem conv_run {P : Program} {o : Oper} {a : Act} {W : World} {t u : TypeId} {s : Operand} {v r : Value} (ho : o.op = .convert t u s) (hs : a.eval s = v) (hl : (convert t u v).run P W = .ok r W) : (execOp a.eval o).run P W = .ok (.value r) W := by
  unfold execOp
  simp only [ho, hs, Sem.run_bind, Sem.run_pure, Result.andThen_ok, hl]
/-- A text at a block's head. -/
theorem txt_pre {w : World} {b t : Nat} {fr : Nat × Nat} {l : List Int} {cs : Array Value} (n c : Nat) (hn : n = l.length) (hc : n ≤ c) (h : w.heap[b]? = some (.cells cs t fr)) (hv : ∀ j, j < l.length → cs[j]? = some (.int .u8 (l.getD j 0))) (hl : l.length ≤ 1048576) (hb : Bytes l) : Txt w (.slice (some ⟨b, 0, none⟩) n c) l := by
  subst hn
  refine ⟨_, _, rfl, hc, ⟨rfl, by omega, fun _ => ⟨_, rfl, fun j p hj => ⟨[.int .u8 p], rfl, rfl, fun i u hu => ?_⟩⟩⟩, hb, hl⟩
  have hi : i = 0 := by
    cases i with
    | zero => rfl
    | succ n => simp at hu
  subst hi
  have hu' : Value.int .u8 p = u := by simpa using hu
  subst hu'
  have hjl : j < l.length := by
    rcases Nat.lt_or_ge j l.length with h | h
    · exact h
    · rw [List.getElem?_eq_none h] at hj; cases hj
  rw [add_row, show j * (Kd.int .u8).sz + 0 = j from Nat.mul_one j, Joins.cell_of_block h j, hv j hjl, List.getD_eq_getElem?_getD, hj]
  rfl
theorem Txt.cells {w : World} {A : Option Addr} {c n : Nat} {l : List Int} (h : Txt w (.slice A n c) l) (j : Nat) (hj : j < l.length) : ∃ ad, A = some ad ∧ w.cell? (ad.add j) = some (.int .u8 (rd l (j : Int))) := by
  obtain ⟨A1, c1, he, h2, h3, h4⟩ := h
  simp only [Value.slice.injEq] at he
  obtain ⟨rfl, _⟩ := he
  obtain ⟨ad, h5, h6⟩ := Kd.at_int h3 (j : Int) (by omega) (by omega)
  rw [Int.toNat_natCast] at h6
  exact ⟨ad, h5, h6⟩
theorem store_run {P : Program} {o : Oper} {a : Act} {W W1 : World} {t : TypeId} {s x : Operand} {g : Nat} {v : Value} (ho : o.op = .store t s x) (hs : a.eval s = .pointer (some ⟨g, 0, none⟩)) (hx : a.eval x = v) (hl : (storeVar t ⟨g, 0, none⟩ v).run P W = .ok () W1) : (execOp a.eval o).run P W = .ok .skip W1 := by
  unfold execOp
  simp only [ho, hs, hx, Instr.storeAt, Instr.sureAddr, Sem.run_bind, Sem.run_pure, Result.andThen_ok, hl]
theorem load_run {P : Program} {o : Oper} {a : Act} {W : World} {t : TypeId} {s : Operand} {g : Nat} {v : Value} (ho : o.op = .load t s) (hs : a.eval s = .pointer (some ⟨g, 0, none⟩)) (hl : (loadVar t ⟨g, 0, none⟩).run P W = .ok v W) : (execOp a.eval o).run P W = .ok (.value v) W := by
  unfold execOp
  simp only [ho, hs, Instr.loadAt, Instr.sureAddr, Sem.run_bind, Sem.run_pure, Result.andThen_ok, hl]
theorem map_byte_inj : ∀ {a b : List Int}, Bytes a → Bytes b → a.map (fun n => UInt8.ofNat n.toNat) = b.map (fun n => UInt8.ofNat n.toNat) → a = b
  | [], [], _, _, _ => rfl
  | [], _ :: _, _, _, h => by simp at h
  | _ :: _, [], _, _, h => by simp at h
  | x :: a, y :: b, ha, hb, h => by
    rw [List.map_cons, List.map_cons] at h
    injection h with h1 h2
    have hx := ha x (by simp)
    have hy := hb y (by simp)
    have h3 := congrArg UInt8.toNat h1
    rw [UInt8.toNat_ofNat', UInt8.toNat_ofNat'] at h3
    have : x = y := by omega
    rw [this, map_byte_inj (fun z hz => ha z (by simp [hz])) (fun z hz => hb z (by simp [hz])) h2]
theorem str_beq {a b : List Int} (ha : Bytes a) (hb : Bytes b) : ((strOfNums a).toList == (strOfNums b).toList) = decide (a = b) := by
  rw [ByteArray.toList_eq, ByteArray.toList_eq, strOfNums_data, strOfNums_data]
  by_cases h : a = b
  · rw [h]; simp
  · rw [decide_eq_false h]
    simp only [beq_eq_false_iff_ne, ne_eq]
    exact fun e => h (map_byte_inj ha hb e)
theorem rb_block {w : World} {base g n c : Nat} {l : List Int} (h : RB w base (.slice (some ⟨g, 0, none⟩) n c) l) : ∃ cur, w.heap[g]? = some (.cells cur 5 (0, 0)) ∧ l.length ≤ c ∧ base ≤ g ∧ ∀ j, j < l.length → cur[j]? = some (.int .u8 (l.getD j 0)) := by
  obtain ⟨cur, hc⟩ := Kd.R_typed h g rfl
  obtain ⟨h1, h2, _⟩ := Kd.R_reads' h
  refine ⟨cur, hc, by omega, rb_fresh h _ rfl, fun j hj => ?_⟩
  obtain ⟨cs, _, hM, hcell, _⟩ := Kd.R_elem h (0 : Int) (j : Int) (by omega) (by omega)
  have h5 : cs = [.int .u8 (l.getD (j : Int).toNat 0)] := hM
  subst h5
  have h6 := hcell 0 _ rfl
  rw [Joins.cell_of_block hc, show (j : Int).toNat * (Kd.int .u8).sz + 0 = j from by show (j : Int).toNat * 1 + 0 = j; omega] at h6
  rw [h6, Int.toNat_natCast]

/-- A clone: a row of its own. -/
def Cloned (w : World) (l : List Int) (e : Ending) (w' : World) : Prop := ∃ A c, e = .returned (.slice A l.length c) ∧ RB w' w.heap.size (.slice A l.length c) l ∧ Below w.heap.size w w'
set_option maxRecDepth 100000 in
theorem clone_rb (w : World) (A : Option Addr) (c : Nat) (l : List Int) (hc : l.length ≤ c) (hC : Kd.C (Kd.int .u8) w A l.length l) (hl : l.length ≤ 1048576) :
    Calls Try.prog 58 #[.slice A l.length c] w (Cloned w l) := by
  cases A with
  | none =>
    have hl : l = [] := by
      rcases Nat.eq_zero_or_pos l.length with h | h
      · exact List.length_eq_zero_iff.1 h
      · obtain ⟨ad, he, _⟩ := hC.2.2 h
        cases he
    subst hl
    have hnil := fun W : World => Lib.run_eql_slice_nil (P := Try.prog) W 26 5 none ([] : List Int).length c 0 0 Try.underlying26
    simp only [Option.isNone_none, List.length_nil] at hnil
    clear hC
    go_enter Try.func58, Try.ntmps58
    go_wp2_with fail
    go_ret
    exact ⟨none, 0, rfl, Kd.R_nil _ _ _ _ _, Below.refl _ _⟩
  | some ad =>
    have HC := Aside0.mk hC
    have HB0 := Aside0.mk (Below.refl w.heap.size w)
    have HL := Aside0.mk (show (([] : List Int).length + l.length) * 1 ≤ 140737488355328 by simp; omega)
    have hnil := fun W : World => Lib.run_eql_slice_nil (P := Try.prog) W 26 5 (some ad) l.length c 0 0 Try.underlying26
    simp only [Option.isNone_some] at hnil
    clear hC
    go_enter Try.func58, Try.ntmps58
    go_wp2_with (first | ((with_reducible refine gate_dst (N := 5) rfl ?_); refine Kd.R_lit (Kd.int .u8) (w0 := w) w.heap.size 5 ?hg (N := 5) ?hd (xs := ([] : List Int)) (inner := []) (ok := fun _ => True) (okp := fun _ => True) ?hr ?hp (fun _ hk => hk) trivial HB0.out HB0.out.size (by simp) ?_; (case hd => rfl); (case hg => rfl); (case hr => first | (go_simp; done) | (go_simp; rfl)); (case hp => exact (Reps.none _ _)); intro v1 w2 ho hb hg hn; have HO2 := Aside0.mk ho; have HB2 := Aside0.mk hb; clear ho hb hg hn; obtain ⟨A2, c2, rfl⟩ := Kd.R_slice HO2.out) | (at_builtin; refine Kd.R_append_rows (Kd.int .u8) (w0 := w) w.heap.size rfl (.tmp 5) (.tmp 6) 26 5 (.int .u8 0) 1 rfl Try.underlying26 info5 rfl (by decide) (by omega) (.slice A2 ([] : List Int).length c2) [] l _ _ _ (fun _ => True) (fun _ => False) rfl rfl ?aO ?aR (fun _ _ h => h) (fun _ h => h.elim) (fun _ _ => trivial) ?aB ?aS ?aL ?_; (case aO => exact HO2.out); (case aR => exact Kd.C_below HC.out HB2.out); (case aB => exact HB2.out); (case aS => exact HB2.out.size); (case aL => exact HL.out); intro v2 w3 ho hb hg hn; rw [List.nil_append] at ho; have HO3 := Aside0.mk ho; have HB3 := Aside0.mk hb; clear ho hb hg hn; obtain ⟨A3, c3, rfl⟩ := Kd.R_slice HO3.out))
    go_ret
    exact ⟨_, _, rfl, HO3.out, HB3.out⟩
/-- What a method may have turned: a block, and a row. -/
structure Chg (w w' : World) (p : Nat) (v : Value) : Prop where
  os : w'.os = w.os
  tape : w'.tape = w.tape
  output : w'.output = w.output
  size : w.heap.size ≤ w'.heap.size
  block : ∀ k, k < w.heap.size → k ≠ p → v.ownBlock ≠ some k → w'.heap[k]? = w.heap[k]?
theorem Chg.refl (w : World) (p : Nat) (v : Value) : Chg w w p v := ⟨rfl, rfl, rfl, Nat.le_refl _, fun _ _ _ _ => rfl⟩
/-- What was put out, at block p. -/
def OutAt (w : World) (B p : Nat) (v : Value) (l : List Int) : Prop := B ≤ p ∧ w.heap[p]? = some (.cells #[v] 28 (0, 0)) ∧ RB w B v l
def Fresh (w : World) (v v' : Value) : Prop := v'.ownBlock = v.ownBlock ∨ ∃ b, v'.ownBlock = some b ∧ w.heap.size ≤ b
/-- A method of Out: it puts l2 behind. -/
def Puts (w : World) (B p : Nat) (v : Value) (l : List Int) (e : Ending) (w' : World) : Prop := (∃ u, e = .returned u) ∧ ∃ v', OutAt w' B p v' l ∧ Chg w w' p v ∧ Fresh w v v'
section
variable {w w' : World} {B p : Nat} {v : Value} {l : List Int}
theorem OutAt.lt (h : OutAt w B p v l) : p < w.heap.size := blk_lt h.2.1
theorem OutAt.ne (h : OutAt w B p v l) : v.ownBlock ≠ some p := fun he => Kd.R_ne h.2.2 h.2.1 (by decide) he.symm
theorem OutAt.form (h : OutAt w B p v l) : ∃ A c, v = .slice A l.length c := Kd.R_slice h.2.2
theorem OutAt.drewN (h : OutAt w B p v l) (m : Nat) : OutAt (w.drewN m) B p v l := ⟨h.1, h.2.1, Kd.R_below h.2.2 (pw_below_drewN (Below.refl _ _) m)⟩
end
end Go.Proofs.Ytjhciagjofhhiaa.Tl
