import Derived.Test.YtkginabioolmiaaProg
import Derived.Test.YtkginabioolmiaaSh
import Derived.Test.YtkginabioolmiaaWQPut
import Derived.Test.YtkginabioolmiaaWZeros
import Derived.Laws.CopyRow
import Derived.Lib.AppendZerosOnto
import Derived.Lib.Overlaps
import Derived.Laws.Externs
import Derived.Shelf.Spec.SlicesInsert
/- Rows of words of 32 bits that a part of a block holds, and what inserts one word: slices.Insert. -/
namespace Go.Proofs.Ytkginabioolmiaa.Gp
open Go.RowKit Go.Shelf Go.Proofs.YtkginabioolmiaaW.PrintWords Go.Proofs.YtkginabioolmiaaW.PrintLast Go.Proofs.YtkginabioolmiaaW.PrintMore Go.Proofs.Ytkginabioolmiaa.Sh
set_option linter.unusedVariables false
set_option linter.unusedSimpArgs false
theorem blk_new_at (w : World) (o : Obj) (b : Nat) (h : b = w.heap.size) : (w.alloc o).heap[b]? = some o := by subst h; exact blk_new w o
abbrev UQ (w : World) (B : Nat) (v : Value) (xs : List Int) : Prop := (Kd.int .u32).Q 22 w B (fun _ => True) v xs
def enc (xs : List Int) : List Value := xs.map (Value.int .u32)
theorem enc_len (xs : List Int) : (enc xs).length = xs.length := by simp [enc]
theorem enc_app (a b : List Int) : enc (a ++ b) = enc a ++ enc b := by simp [enc]
theorem enc_one (xs : List Int) : ∀ v ∈ enc xs, v.oneCell' = true := by
  intro v hv
  obtain ⟨x, _, rfl⟩ := List.mem_map.1 hv
  rfl
theorem reps_enc {w : World} {B : Nat} {ok : Nat → Prop} {xs : List Int} {inner : List Value} (h : Reps ((Kd.int .u32).M w B ok) 1 xs inner) : inner = enc xs := by
  have hl : inner.length = xs.length := by rw [h.1, Nat.mul_one]
  apply List.ext_getElem?
  intro j
  rcases Nat.lt_or_ge j xs.length with hj | hj
  · have h1 : (inner.drop (j * 1)).take 1 = [Value.int .u32 xs[j]] := h.2 j _ (List.getElem?_eq_getElem hj)
    have h2 : ((inner.drop (j * 1)).take 1)[0]? = inner[j]? := by simp
    rw [← h2, h1]
    simp [enc, List.getElem?_eq_getElem hj]
  · rw [List.getElem?_eq_none (by omega), List.getElem?_eq_none (by rw [enc_len]; omega)]
theorem enc_reps (w : World) (B : Nat) (ok : Nat → Prop) (xs : List Int) : Reps ((Kd.int .u32).M w B ok) 1 xs (enc xs) := by
  refine ⟨by rw [enc_len, Nat.mul_one], fun j x hj => ?_⟩
  show ((enc xs).drop (j * 1)).take 1 = [Value.int .u32 x]
  apply List.ext_getElem?
  intro k
  cases k with
  | zero => simp [enc, hj]
  | succ k => simp; omega
/-- A row that is not empty, in its block. -/
theorem uq_form {w : World} {B : Nat} {v : Value} {xs : List Int} (h : UQ w B v xs) (hp : 0 < xs.length) :
    ∃ g cap P S, v = .slice (some ⟨g, P.length, none⟩) xs.length cap ∧ B ≤ g ∧ w.heap[g]? = some (.cells (P ++ enc xs ++ S).toArray 22 (0, 0)) ∧ xs.length + S.length = cap ∧ P.length + cap ≤ maxLen := by
  obtain ⟨_, inner, hq, hr⟩ := h
  obtain rfl := reps_enc hr
  rcases hq.2 with ⟨h0, _⟩ | ⟨g, off, cap, cur, rfl, hB, hh, hnc, hm, hcs, ht⟩
  · omega
  · have hcs' : cur.size = off + cap := by rw [hcs]; exact Nat.mul_one _
    have ht' : (cur.toList.drop off).take xs.length = enc xs := by
      have := ht
      rw [show (Kd.int .u32).sz = 1 from rfl, Nat.mul_one, Nat.mul_one] at this
      exact this
    have hl : cur.toList.length = off + cap := by rw [Array.length_toList, hcs']
    refine ⟨g, cap, cur.toList.take off, cur.toList.drop (off + xs.length), ?_, hB, ?_, ?_, ?_⟩
    · rw [show (Kd.int .u32).sz = 1 from rfl, Nat.mul_one, List.length_take, Nat.min_eq_left (by omega)]
    · rw [hh, ← ht', List.append_assoc, ← List.drop_drop, List.take_append_drop, List.take_append_drop]
    · rw [List.length_drop]; omega
    · rw [List.length_take, Nat.min_eq_left (by omega)]; exact hm
theorem uq_of {w : World} {B g cap n : Nat} {P S : List Value} {xs : List Int} (hB : B ≤ g) (hh : w.heap[g]? = some (.cells (P ++ enc xs ++ S).toArray 22 (0, 0))) (hn : n = xs.length) (hc : xs.length + S.length = cap) (hm : P.length + cap ≤ maxLen) :
    UQ w B (.slice (some ⟨g, P.length, none⟩) n cap) xs := by
  subst hn
  refine ⟨fun _ _ => trivial, enc xs, ⟨by rw [enc_len]; exact (Nat.mul_one _).symm, .inr ⟨g, P.length, cap, _, by rw [show (Kd.int .u32).sz = 1 from rfl, Nat.mul_one], hB, hh, by omega, hm, ?_, ?_⟩⟩, enc_reps _ _ _ _⟩
  · rw [show (Kd.int .u32).sz = 1 from rfl, Nat.mul_one, List.size_toArray]
    simp only [List.length_append, enc_len]
    omega
  · rw [show (Kd.int .u32).sz = 1 from rfl, Nat.mul_one, Nat.mul_one]
    rw [List.append_assoc, List.drop_left, List.take_append_of_le_length (by rw [enc_len]; omega), List.take_of_length_le (by rw [enc_len]; omega)]
theorem uq_move {w w' : World} {B : Nat} {v : Value} {xs : List Int} (h : UQ w B v xs) (hv : ∀ k, v.ownBlock = some k → w'.heap[k]? = w.heap[k]?) : UQ w' B v xs := by
  obtain ⟨a, inner, hq, hr⟩ := h
  exact ⟨a, inner, q_move hq hv, hr.1, fun m x hm => hr.2 m x hm⟩
theorem uq_slice {w : World} {B : Nat} {v : Value} {xs : List Int} (h : UQ w B v xs) : ∃ A c, v = .slice A xs.length c ∧ xs.length ≤ c ∧ Kd.C (Kd.int .u32) w A xs.length xs := Kd.Q_reads h
theorem setRow_heap (w : World) (g : Nat) (cur cs : Array Value) (t : TypeId) (h : w.heap[g]? = some (.cells cur t (0, 0))) : (w.setRow g cs).heap[g]? = some (.cells cs t (0, 0)) := by
  unfold World.setRow
  simp only [Array.getElem?_modify, if_true, h, Option.map_some]
/-- What a word that is inserted leaves: the row, and what was not touched. -/
def Ins (w : World) (B : Nat) (v : Value) (ys : List Int) (e : Ending) (w' : World) : Prop :=
  ∃ v1, e = .returned v1 ∧ UQ w' B v1 ys ∧ w.grownBy w' v.ownBlock ∧ (v1.ownBlock = v.ownBlock ∨ ∃ b, v1.ownBlock = some b ∧ w.heap.size ≤ b)
theorem info22 : (Try.prog.info? 22).map (fun i => (i.zero, i.size, i.bytes)) = some (some (.int .u32 0), 1, 4) := by kernel_rfl
theorem size22 : (Try.prog.info? 22).map (·.size) = some 1 := by kernel_rfl
theorem gb_setRow (w : World) (g : Nat) (cs : Array Value) : w.grownBy (w.setRow g cs) (some g) :=
  ⟨rfl, rfl, rfl, by simp [World.setRow], fun i _ hi => setRow_other w g i cs (fun e => hi (by rw [e]))⟩
theorem gb_drew (w : World) (r : Option Nat) : w.grownBy w.drew r := ⟨rfl, rfl, rfl, Nat.le_refl _, fun _ _ _ => rfl⟩
theorem uq_some {w : World} {B c : Nat} {A : Option Addr} {xs : List Int} (h : UQ w B (.slice A xs.length c) xs) (hc : c ≠ xs.length) : ∃ g o, A = some ⟨g, o, none⟩ := by
  obtain ⟨_, inner, hq, hr⟩ := h
  rcases hq.2 with ⟨h0, A', he, _⟩ | ⟨g, off, cap, cur, he, _⟩
  · injection he with _ _ h3
    omega
  · injection he with h1
    exact ⟨g, _, h1⟩
set_option maxRecDepth 100000 in
set_option maxHeartbeats 2000000 in
theorem insert_end {w : World} {B : Nat} {v : Value} {xs : List Int} (h : UQ w B v xs) (x : Int) (hB : B ≤ w.heap.size) (hl : xs.length ≤ 1000) :
    Calls Try.prog 46 #[v, .int .i64 xs.length, .slice (some ⟨w.heap.size, 0, none⟩) 1 1] (w.alloc (.cells #[.int .u32 x] 22)) (Ins w B v (xs ++ [x])) := by
  obtain ⟨A, c, rfl, hc, hC⟩ := uq_slice h
  have h63 : xs.length ≤ 9223372036854775807 := by omega
  have H := Aside0.mk h
  have HL := Aside0.mk (show (xs.length + 1) * 4 ≤ 140737488355328 by omega)
  have HB := Aside0.mk hB
  by_cases hcc : c = xs.length
  · subst hcc
    clear h hB hC
    go_enter Try.func46, Try.ntmps46
    go_wp2_with (first | ((with_reducible refine gate_builtin (b := .append) (xs := #[.tmp 23, .tmp 24]) rfl ?_); at_builtin; refine Kd.Q_append (Kd.int .u32) (w0 := w) B rfl (.tmp 23) (.tmp 24) 35 22 (.int .u32 0) 4 rfl Try.underlying35 info22 rfl (by decide) (by decide) (.slice A xs.length xs.length) xs x [.int .u32 x] (fun _ => True) (fun _ => False) rfl rfl ?aD (fun _ h => h.elim) (fun _ _ => trivial) ?aO ?aB ?aS ?aL ?_; (case aD => rfl); (case aO => exact H.out); (case aB => exact Below.refl _ _); (case aS => exact HB.out); (case aL => exact HL.out); intro v1 w1 ho hb hg hn; have HO := Aside0.mk ho; have HG := Aside0.mk hg; have HN := Aside0.mk hn; clear ho hb hg hn))
    go_ret
    exact ⟨_, rfl, HO.out, HG.out, HN.out⟩
  · obtain ⟨g, o, rfl⟩ := uq_some h hcc
    have hc2 : ¬ (c = xs.length) := hcc
    have hlc : (xs.length : Int) ≤ (c : Int) := by omega
    clear h hB hcc hC
    go_enter Try.func46, Try.ntmps46
    go_wp2_with (first | ((with_reducible refine gate_builtin (b := .append) (xs := #[.tmp 23, .tmp 24]) rfl ?_); at_builtin; refine Kd.Q_append (Kd.int .u32) (w0 := w) B rfl (.tmp 23) (.tmp 24) 35 22 (.int .u32 0) 4 rfl Try.underlying35 info22 rfl (by decide) (by decide) (.slice (some ⟨g, o, none⟩) xs.length c) xs x [.int .u32 x] (fun _ => True) (fun _ => False) rfl rfl ?aD (fun _ h => h.elim) (fun _ _ => trivial) ?aO ?aB ?aS ?aL ?_; (case aD => rfl); (case aO => exact H.out); (case aB => exact Below.refl _ _); (case aS => exact HB.out); (case aL => exact HL.out); intro v1 w1 ho hb hg hn; have HO := Aside0.mk ho; have HG := Aside0.mk hg; have HN := Aside0.mk hn; clear ho hb hg hn))
    go_ret
    exact ⟨_, rfl, HO.out, HG.out, HN.out⟩
theorem shape_of {w : World} {g : Nat} {cs : List Value} {t : TypeId} (h : w.heap[g]? = some (.cells cs.toArray t (0, 0))) : w.shape? g = some (t, cs.length) := by
  unfold World.shape?
  rw [h]
  rfl
theorem get_mid {P T : List Value} {a c : List Int} {j : Nat} {v : Value} (h : (enc c)[j]? = some v) : (P ++ enc (a ++ c) ++ T)[P.length + a.length + j]? = some v := by
  have hj : j < (enc c).length := (List.getElem?_eq_some_iff.1 h).1
  rw [enc_app, ← List.append_assoc, List.append_assoc (P ++ enc a), List.getElem?_append_right (by rw [List.length_append, enc_len]; omega), List.length_append, enc_len, show P.length + a.length + j - (P.length + a.length) = j by omega, List.getElem?_append_left hj]
  exact h
theorem copy_list {P a b S : List Value} {s : Value} (b0 : Value) (hb : b = b0 :: b.tail) : ((P ++ (a ++ b) ++ (s :: S)).take (P.length + (a.length + 1)) ++ b ++ (P ++ (a ++ b) ++ (s :: S)).drop (P.length + (a.length + 1) + b.length)) = P ++ a ++ [b0] ++ b ++ S := by
  have h1 : P ++ (a ++ b) ++ (s :: S) = (P ++ a ++ [b0]) ++ (b.tail ++ (s :: S)) := by
    conv => lhs; rw [hb]
    simp
  have h2 : P ++ (a ++ b) ++ (s :: S) = (P ++ (a ++ b) ++ [s]) ++ S := by simp
  have e1 : (P ++ (a ++ b) ++ (s :: S)).take (P.length + (a.length + 1)) = P ++ a ++ [b0] := by
    rw [h1]
    exact List.take_left' (by simp)
  have e2 : (P ++ (a ++ b) ++ (s :: S)).drop (P.length + (a.length + 1) + b.length) = S := by
    rw [h2]
    exact List.drop_left' (by simp; omega)
  rw [e1, e2]
theorem copy_one {P a R : List Value} (y x : Value) : ((P ++ a ++ [y] ++ R).take (P.length + a.length) ++ [x] ++ (P ++ a ++ [y] ++ R).drop (P.length + a.length + 1)) = P ++ a ++ [x] ++ R := by
  have e1 : (P ++ a ++ [y] ++ R).take (P.length + a.length) = P ++ a := by
    rw [List.append_assoc (P ++ a)]
    exact List.take_left' (by simp)
  have e2 : (P ++ a ++ [y] ++ R).drop (P.length + a.length + 1) = R := List.drop_left' (by simp; omega)
  rw [e1, e2]
set_option maxRecDepth 100000 in
set_option maxHeartbeats 2000000 in
theorem insert_room {w : World} {B g cap : Nat} {P S : List Value} {s0 : Value} (a b : List Int) (x y : Int) (hB : B ≤ g) (hh : w.heap[g]? = some (.cells (P ++ enc (a ++ y :: b) ++ (s0 :: S)).toArray 22 (0, 0))) (hc : (a ++ y :: b).length + (S.length + 1) = cap) (hm : P.length + cap ≤ maxLen) (hl : (a ++ y :: b).length ≤ 1000) :
    Calls Try.prog 46 #[.slice (some ⟨g, P.length, none⟩) (a ++ y :: b).length cap, .int .i64 a.length, .slice (some ⟨w.heap.size, 0, none⟩) 1 1] (w.alloc (.cells #[.int .u32 x] 22)) (Ins w B (.slice (some ⟨g, P.length, none⟩) (a ++ y :: b).length cap) (a ++ [x] ++ y :: b)) := by
  have hgw := blk_lt hh
  obtain ⟨X, hX⟩ : ∃ X, X = w.heap.size := ⟨_, rfl⟩
  obtain ⟨W0, hW0⟩ : ∃ W0, W0 = w.alloc (.cells #[.int .u32 x] 22) := ⟨_, rfl⟩
  have h0 : W0.heap[g]? = some (.cells (P ++ enc (a ++ y :: b) ++ (s0 :: S)).toArray 22 (0, 0)) := by rw [hW0]; exact blk_alloc hh _
  have hx0 : W0.heap[X]? = some (.cells #[.int .u32 x] 22 (0, 0)) := by rw [hW0, hX]; exact blk_new w _
  have hgx : g ≠ X := by omega
  have hov : ∀ lb cb, (callFunc 105 #[.slice (some ⟨X, 0, none⟩) 1 1, .slice (some ⟨g, P.length + (a.length + 1), none⟩) lb cb]).run Try.prog W0 = .ok (.value (.bool false)) W0 := fun lb cb => by
    rw [run_callFunc_extern Try.func105 (by kernel_rfl) (by kernel_rfl) (by kernel_rfl) (e := Extern.SlicesOverlaps.overlaps #[35, 35] #[4]) (by kernel_rfl),
      Lib.run_overlaps_apart W0 35 4 22 Try.underlying35 1 (by intro w; kernel_rfl) ⟨X, 0, none⟩ ⟨g, P.length + (a.length + 1), none⟩ 1 1 lb cb (Ne.symm hgx) 22 22 1 (P ++ enc (a ++ y :: b) ++ (s0 :: S)).length (shape_of hx0) (shape_of h0) (by simp) (blk_frozen hx0 0) (blk_frozen hx0 1)]
    rfl
  have hlen : (a ++ y :: b).length = a.length + b.length + 1 := by simp; omega
  obtain ⟨n, hn⟩ : ∃ n, n = (a ++ y :: b).length := ⟨_, rfl⟩
  obtain ⟨i, hi⟩ : ∃ i, i = a.length := ⟨_, rfl⟩
  obtain ⟨o, ho⟩ : ∃ o, o = P.length := ⟨_, rfl⟩
  rw [← hn] at hc hl ⊢
  have hnb : n = i + b.length + 1 := by rw [hn, hi, hlen]
  have hyb : (enc (y :: b)).length = n - i := by rw [enc_len]; simp; omega
  have hin : i < n := by omega
  have hcap : n + 1 ≤ cap := by omega
  unfold maxLen at hm
  have hcp1 : ∀ ty dc sc, (Builtin.copy_ #[35, 35] ty #[.slice (some ⟨g, o + (i + 1), none⟩) (n - i) dc, .slice (some ⟨g, o + i, none⟩) (n + 1 - i) sc]).run Try.prog W0.drew = .ok (goInt (enc (y :: b)).length) (W0.drew.setRow g (P ++ enc a ++ [Value.int .u32 y] ++ enc (y :: b) ++ S).toArray) := fun ty dc sc => by
    have h := run_copy_row (P := Try.prog) W0.drew 35 35 ty 22 g (o + (i + 1)) (n - i) dc ⟨g, o + i, none⟩ (n + 1 - i) sc _ 22 (enc (y :: b)) Try.underlying35 size22 h0 (by rw [hyb]; simp only [Nat.min_def]; split <;> omega) (fun j v hj => by
      rw [add_at]
      refine (blk_cell (blk_drew h0) _).trans ?_
      rw [List.getElem?_toArray, ho, hi]
      exact get_mid hj) (by rw [ho, hi]; simp [enc_len]; omega) (enc_one _)
    rw [h, List.toList_toArray, ho, hi, enc_app]
    have := copy_list (P := P) (a := enc a) (b := enc (y :: b)) (S := S) (s := s0) (.int .u32 y) rfl
    rw [enc_len a] at this
    rw [this]
  have h1 : (W0.drew.setRow g (P ++ enc a ++ [Value.int .u32 y] ++ enc (y :: b) ++ S).toArray).heap[g]? = some (.cells (P ++ enc a ++ [Value.int .u32 y] ++ enc (y :: b) ++ S).toArray 22 (0, 0)) := setRow_heap W0.drew g _ _ 22 h0
  have hx1 : (W0.drew.setRow g (P ++ enc a ++ [Value.int .u32 y] ++ enc (y :: b) ++ S).toArray).heap[X]? = some (.cells #[.int .u32 x] 22 (0, 0)) := (setRow_other W0.drew g X _ (Ne.symm hgx)).trans hx0
  have hgb1 : W0.grownBy (W0.drew.setRow g (P ++ enc a ++ [Value.int .u32 y] ++ enc (y :: b) ++ S).toArray) (some g) := (gb_drew W0 _).trans (gb_setRow W0.drew g _)
  obtain ⟨W1, hW1⟩ : ∃ W1, W1 = W0.drew.setRow g (P ++ enc a ++ [Value.int .u32 y] ++ enc (y :: b) ++ S).toArray := ⟨_, rfl⟩
  rw [← hW1] at hcp1 h1 hx1 hgb1
  have hcp2 : ∀ ty dc, (Builtin.copy_ #[35, 35] ty #[.slice (some ⟨g, o + i, none⟩) (n + 1 - i) dc, .slice (some ⟨X, 0, none⟩) 1 1]).run Try.prog W1 = .ok (goInt 1) (W1.setRow g (P ++ enc a ++ [Value.int .u32 x] ++ enc (y :: b) ++ S).toArray) := fun ty dc => by
    have h := run_copy_row (P := Try.prog) W1 35 35 ty 22 g (o + i) (n + 1 - i) dc ⟨X, 0, none⟩ 1 1 _ 22 [Value.int .u32 x] Try.underlying35 size22 h1 (by simp only [Nat.min_def, List.length_singleton]; split <;> omega) (fun j v hj => by
      have hj0 : j = 0 := by
        cases j with
        | zero => rfl
        | succ j => simp at hj
      subst hj0
      rw [add_at]
      refine (blk_cell hx1 _).trans ?_
      simpa using hj) (by rw [ho, hi]; simp [enc_len]; omega) (by intro v hv; simp at hv; subst hv; rfl)
    rw [h, List.toList_toArray, ho, hi, List.length_singleton]
    have := copy_one (P := P) (a := enc a) (R := enc (y :: b) ++ S) (.int .u32 y) (.int .u32 x)
    rw [enc_len a] at this
    rw [List.append_assoc (P ++ enc a ++ [Value.int .u32 y]), this, ← List.append_assoc]
    rfl
  have h2 : (W1.setRow g (P ++ enc a ++ [Value.int .u32 x] ++ enc (y :: b) ++ S).toArray).heap[g]? = some (.cells (P ++ enc (a ++ [x] ++ y :: b) ++ S).toArray 22 (0, 0)) := by
    rw [setRow_heap W1 g _ _ 22 h1, enc_app, enc_app]
    simp only [List.append_assoc]
    rfl
  have hgb2 : W0.grownBy (W1.setRow g (P ++ enc a ++ [Value.int .u32 x] ++ enc (y :: b) ++ S).toArray) (some g) := hgb1.trans (gb_setRow W1 g _)
  have hQ := uq_of (B := B) (n := n + 1) hB h2 (by rw [hnb]; simp; omega) (show _ = cap by simp; omega) (by unfold maxLen; omega)
  rw [← ho] at hQ
  obtain ⟨ys, hys⟩ : ∃ ys, ys = a ++ [x] ++ y :: b := ⟨_, rfl⟩
  rw [← hys] at hQ ⊢
  have HG0 := Aside0.mk (show w.grownBy W0 (some g) by rw [hW0]; exact World.grownBy_alloc w _ _)
  obtain ⟨W2, hW2⟩ : ∃ W2, W2 = W1.setRow g (P ++ enc a ++ [Value.int .u32 x] ++ enc (y :: b) ++ S).toArray := ⟨_, rfl⟩
  rw [← hW2] at hcp2 hQ hgb2
  have HE := Aside0.mk (And.intro hQ hgb2)
  have hw1 : IntKind.i64.wrap ((i : Int) + 1) = (i : Int) + 1 := by rw [IntKind.wrap_i64]; omega
  have hb1 : (0 : Int) ≤ (i : Int) + 1 := by omega
  have htn : ((i : Int) + 1).toNat = i + 1 := by omega
  have hb3 : (i : Int) ≤ (n : Int) + 1 := by omega
  have hb4 : (i : Int) + 1 ≤ (n : Int) + 1 := by omega
  have hne : ¬ ((i : Int) = (n : Int)) := by omega
  have hro : ¬ ((cap : Int) < (n : Int) + 1) := by omega
  have hc1 : ¬ (cap = i + 1) := by omega
  have hc2 : ¬ (cap = i) := by omega
  have hc3 : (n : Int) + 1 ≤ (cap : Int) := by omega
  rw [← hi, ← ho] at hov
  rw [← hi, ← ho, ← hX, ← hW0]
  clear hh h0 hx0 h1 hx1 hgb1 h2 hgb2 hQ hnb hyb hlen hn hi hW0 hW1 hX ho hys hW2
  go_enter Try.func46, Try.ntmps46
  go_wp2_with (simp only [hov])
  go_region_law (refine step_copy_runI rfl _ _ 35 35 rfl _ _ (by simp [Act.eval, Act.put]) (by simp [Act.eval, Act.put]) (hcp1 _ _ _) ?_)
  go_wp2_with (at_builtin; refine wpList_copy_runI _ rfl _ _ 35 35 rfl _ _ rfl rfl (hcp2 _ _) ?_)
  go_ret
  exact ⟨_, rfl, HE.out.1, HG0.out.trans HE.out.2, .inl rfl⟩
theorem zero_cells (k : Nat) : Builtin.zeroCells (Value.int .u32 0).cells k = (enc (List.replicate k 0)).toArray := by
  have h := Kd.reps_zeros (R := (Kd.int .u32).M (World.settled Try.prog default) 0 (fun _ => True)) (z := .int .u32 0) (size := 1) (z0 := (0 : Int)) rfl (by decide) rfl k
  rw [← reps_enc h, Array.toArray_toList]
set_option maxRecDepth 100000 in
set_option maxHeartbeats 2000000 in
theorem insert_grow {w : World} {B g cap : Nat} {P S : List Value} (a b : List Int) (x y : Int) (hB : B ≤ w.heap.size) (hh : w.heap[g]? = some (.cells (P ++ enc (a ++ y :: b) ++ S).toArray 22 (0, 0))) (hc : (a ++ y :: b).length = cap) (hm : P.length + cap ≤ maxLen) (hl : (a ++ y :: b).length ≤ 1000) :
    Calls Try.prog 46 #[.slice (some ⟨g, P.length, none⟩) (a ++ y :: b).length cap, .int .i64 a.length, .slice (some ⟨w.heap.size, 0, none⟩) 1 1] (w.alloc (.cells #[.int .u32 x] 22)) (Ins w B (.slice (some ⟨g, P.length, none⟩) (a ++ y :: b).length cap) (a ++ [x] ++ y :: b)) := by
  have hgw := blk_lt hh
  obtain ⟨X, hX⟩ : ∃ X, X = w.heap.size := ⟨_, rfl⟩
  obtain ⟨W0, hW0⟩ : ∃ W0, W0 = w.alloc (.cells #[.int .u32 x] 22) := ⟨_, rfl⟩
  have hs0 : W0.heap.size = X + 1 := by rw [hW0, hX, World.size_alloc]
  have h0 : W0.heap[g]? = some (.cells (P ++ enc (a ++ y :: b) ++ S).toArray 22 (0, 0)) := by rw [hW0]; exact blk_alloc hh _
  have hx0 : W0.heap[X]? = some (.cells #[.int .u32 x] 22 (0, 0)) := by rw [hW0, hX]; exact blk_new w _
  have hgx : g ≠ X := by omega
  have hlen : (a ++ y :: b).length = a.length + b.length + 1 := by simp; omega
  obtain ⟨n, hn⟩ : ∃ n, n = (a ++ y :: b).length := ⟨_, rfl⟩
  obtain ⟨i, hi⟩ : ∃ i, i = a.length := ⟨_, rfl⟩
  obtain ⟨o, ho⟩ : ∃ o, o = P.length := ⟨_, rfl⟩
  rw [← hn] at hc hl ⊢
  subst hc
  have hnb : n = i + b.length + 1 := by rw [hn, hi, hlen]
  have hyb : (enc (y :: b)).length = n - i := by rw [enc_len]; simp; omega
  have hin : i < n := by omega
  unfold maxLen at hm
  obtain ⟨i0, hi0, hzz⟩ := Option.map_eq_some_iff.1 info22
  simp only [Prod.mk.injEq] at hzz
  obtain ⟨hz0, hzs, hzb⟩ := hzz
  have hold : (Builtin.firstCells i0.size i (.slice (some ⟨g, o, none⟩) i n)).run Try.prog W0.drew = .ok (enc a).toArray W0.drew := by
    rw [hzs]
    exact run_firstCells_some W0.drew 1 i ⟨g, o, none⟩ i n (enc a) (by rw [enc_len, ← hi]; simp) (fun j v hj => by
      rw [add_at]
      refine (blk_cell (blk_drew h0) _).trans ?_
      rw [List.getElem?_toArray, ho]
      have := get_mid (P := P) (T := S) (a := []) (c := a ++ y :: b) (j := j) (v := v) (by rw [enc_app, List.getElem?_append_left (List.getElem?_eq_some_iff.1 hj).1]; exact hj)
      exact this)
  have hkk : (n : Int) + 1 - (i : Int) = ((n + 1 - i : Nat) : Int) := by omega
  have hik : i + (n + 1 - i) = n + 1 := by omega
  obtain ⟨G, hG⟩ : ∃ G, G = grownCap W0 (n + 1) n 22 := ⟨_, rfl⟩
  have hrz : ∀ ty, (Builtin.append_ #[35, 3] ty #[.slice (some ⟨g, o, none⟩) i n, .int .i64 ((n : Int) + 1 - (i : Int))]).run Try.prog W0 =
      .ok (.slice (some ⟨W0.heap.size, 0, none⟩) (n + 1) G) (W0.drew.alloc (.cells ((enc a).toArray ++ Builtin.zeroCells (Value.int .u32 0).cells (n + 1 - i) ++ Builtin.zeroCells (Value.int .u32 0).cells (G - (n + 1))) 22)) := fun ty => by
    have h := Lib.run_append_grow_zeros W0 35 3 ty 22 i0 _ .i64 .i64 Try.underlying35 Try.underlying3 hi0 hz0 (some ⟨g, o, none⟩) i n (enc a) hold (n + 1 - i) (by omega) (by omega) (by omega) (by omega) (by rw [hzb]; omega) (by rw [hzb, hik]; exact growslice_fits (by omega) (by omega))
    rw [hik, ← hG] at h
    rw [hkk]
    exact h
  rw [zero_cells, zero_cells, show n + 1 - i = b.length + 1 + 1 by omega, hs0] at hrz
  obtain ⟨Z, hZ⟩ : ∃ Z, Z = enc (List.replicate (G - (n + 1)) 0) := ⟨_, rfl⟩
  have hZl : Z.length = G - (n + 1) := by rw [hZ, enc_len, List.length_replicate]
  obtain ⟨R, hR⟩ : ∃ R, R = enc (List.replicate (b.length + 1) 0) := ⟨_, rfl⟩
  have hRl : R.length = b.length + 1 := by rw [hR, enc_len, List.length_replicate]
  have hROW : (enc a).toArray ++ (enc (List.replicate (b.length + 1 + 1) 0)).toArray ++ (enc (List.replicate (G - (n + 1)) 0)).toArray = (enc a ++ [Value.int .u32 0] ++ R ++ Z).toArray := by
    rw [← hZ, hR]
    simp [enc, List.replicate_succ]
  have hGn : n + 1 ≤ G := by rw [hG]; exact grownCap_ge W0 _ _ _
  have hGm : G ≤ maxLen := by rw [hG]; exact grownCap_le_maxLen W0 (n + 1) n 22 (by unfold maxLen; omega)
  have h1 : (W0.drew.alloc (.cells (enc a ++ [Value.int .u32 0] ++ R ++ Z).toArray 22)).heap[X + 1]? = some (.cells (enc a ++ [Value.int .u32 0] ++ R ++ Z).toArray 22 (0, 0)) := blk_new_at W0.drew _ (X + 1) hs0.symm
  have hx1 : (W0.drew.alloc (.cells (enc a ++ [Value.int .u32 0] ++ R ++ Z).toArray 22)).heap[X]? = some (.cells #[.int .u32 x] 22 (0, 0)) := blk_alloc (blk_drew hx0) _
  have hg1 : (W0.drew.alloc (.cells (enc a ++ [Value.int .u32 0] ++ R ++ Z).toArray 22)).heap[g]? = some (.cells (P ++ enc (a ++ y :: b) ++ S).toArray 22 (0, 0)) := blk_alloc (blk_drew h0) _
  have hgb1 : W0.grownBy (W0.drew.alloc (.cells (enc a ++ [Value.int .u32 0] ++ R ++ Z).toArray 22)) (some g) := (gb_drew W0 _).trans (World.grownBy_alloc _ _ _)
  rw [hROW] at hrz
  obtain ⟨W1, hW1⟩ : ∃ W1, W1 = W0.drew.alloc (.cells (enc a ++ [Value.int .u32 0] ++ R ++ Z).toArray 22) := ⟨_, rfl⟩
  rw [← hW1] at hrz h1 hx1 hg1 hgb1
  have hcp1 : ∀ ty dc, (Builtin.copy_ #[35, 35] ty #[.slice (some ⟨X + 1, i, none⟩) (n + 1 - i) dc, .slice (some ⟨X, 0, none⟩) 1 1]).run Try.prog W1 = .ok (goInt 1) (W1.setRow (X + 1) (enc a ++ [Value.int .u32 x] ++ R ++ Z).toArray) := fun ty dc => by
    have h := run_copy_row (P := Try.prog) W1 35 35 ty 22 (X + 1) i (n + 1 - i) dc ⟨X, 0, none⟩ 1 1 _ 22 [Value.int .u32 x] Try.underlying35 size22 h1 (by simp only [Nat.min_def, List.length_singleton]; split <;> omega) (fun j v hj => by
      have hj0 : j = 0 := by
        cases j with
        | zero => rfl
        | succ j => simp at hj
      subst hj0
      rw [add_at]
      refine (blk_cell hx1 _).trans ?_
      simpa using hj) (by rw [hi]; simp [enc_len]) (by intro v hv; simp at hv; subst hv; rfl)
    rw [h, List.toList_toArray, hi, List.length_singleton]
    have := copy_one (P := []) (a := enc a) (R := R ++ Z) (.int .u32 0) (.int .u32 x)
    rw [enc_len a, List.nil_append, List.length_nil, Nat.zero_add] at this
    rw [List.append_assoc (enc a ++ [Value.int .u32 0]), this, ← List.append_assoc]
    rfl
  have h2 := setRow_heap W1 (X + 1) _ (enc a ++ [Value.int .u32 x] ++ R ++ Z).toArray 22 h1
  have hg2 := (setRow_other W1 (X + 1) g (enc a ++ [Value.int .u32 x] ++ R ++ Z).toArray (by omega)).trans hg1
  have hgb2 : W0.grownBy (W1.setRow (X + 1) (enc a ++ [Value.int .u32 x] ++ R ++ Z).toArray) (some g) := ⟨hgb1.os, hgb1.tape, hgb1.output, by rw [setRow_size]; exact hgb1.size, fun k hk hne => (setRow_other W1 (X + 1) k _ (by omega)).trans (hgb1.block k hk hne)⟩
  obtain ⟨W2, hW2⟩ : ∃ W2, W2 = W1.setRow (X + 1) (enc a ++ [Value.int .u32 x] ++ R ++ Z).toArray := ⟨_, rfl⟩
  rw [← hW2] at hcp1 h2 hg2 hgb2
  have hcp2 : ∀ ty dc sc, (Builtin.copy_ #[35, 35] ty #[.slice (some ⟨X + 1, i + 1, none⟩) (n - i) dc, .slice (some ⟨g, o + i, none⟩) (n - i) sc]).run Try.prog W2.drew = .ok (goInt (enc (y :: b)).length) (W2.drew.setRow (X + 1) (enc a ++ [Value.int .u32 x] ++ enc (y :: b) ++ Z).toArray) := fun ty dc sc => by
    have h := run_copy_row (P := Try.prog) W2.drew 35 35 ty 22 (X + 1) (i + 1) (n - i) dc ⟨g, o + i, none⟩ (n - i) sc _ 22 (enc (y :: b)) Try.underlying35 size22 h2 (by rw [hyb]; simp) (fun j v hj => by
      rw [add_at]
      refine (blk_cell (blk_drew hg2) _).trans ?_
      rw [List.getElem?_toArray, ho, hi]
      exact get_mid hj) (by rw [hi, hyb]; simp [enc_len]; omega) (enc_one _)
    rw [h, List.toList_toArray, hi]
    have e1 : (enc a ++ [Value.int .u32 x] ++ R ++ Z).take (a.length + 1) = enc a ++ [Value.int .u32 x] := by
      rw [List.append_assoc (enc a ++ [Value.int .u32 x])]
      exact List.take_left' (by simp [enc_len])
    have e2 : (enc a ++ [Value.int .u32 x] ++ R ++ Z).drop (a.length + 1 + (enc (y :: b)).length) = Z := List.drop_left' (by rw [hyb]; simp [enc_len]; omega)
    rw [e1, e2]
  have h3 : (W2.drew.setRow (X + 1) (enc a ++ [Value.int .u32 x] ++ enc (y :: b) ++ Z).toArray).heap[X + 1]? = some (.cells ([] ++ enc (a ++ [x] ++ y :: b) ++ Z).toArray 22 (0, 0)) := by
    rw [setRow_heap W2.drew (X + 1) _ _ 22 h2, enc_app, enc_app]
    simp only [List.append_assoc, List.nil_append]
    rfl
  have hgb3 : W0.grownBy (W2.drew.setRow (X + 1) (enc a ++ [Value.int .u32 x] ++ enc (y :: b) ++ Z).toArray) (some g) := ⟨hgb2.os, hgb2.tape, hgb2.output, by rw [setRow_size]; exact hgb2.size, fun k hk hne => (setRow_other W2.drew (X + 1) k _ (by omega)).trans (hgb2.block k hk hne)⟩
  have hQ := uq_of (B := B) (n := n + 1) (cap := G) (by omega) h3 (by rw [hnb]; simp; omega) (by simp; omega) (by simp; omega)
  have HG0 := Aside0.mk (show w.grownBy W0 (some g) by rw [hW0]; exact World.grownBy_alloc w _ _)
  obtain ⟨W3, hW3⟩ : ∃ W3, W3 = W2.drew.setRow (X + 1) (enc a ++ [Value.int .u32 x] ++ enc (y :: b) ++ Z).toArray := ⟨_, rfl⟩
  obtain ⟨ys, hys⟩ : ∃ ys, ys = a ++ [x] ++ y :: b := ⟨_, rfl⟩
  rw [← hW3] at hcp2 hgb3 hQ
  rw [← hys] at hQ ⊢
  have HE := Aside0.mk (And.intro hQ hgb3)
  have HX := Aside0.mk (show w.heap.size ≤ X + 1 by omega)
  have hw1 : IntKind.i64.wrap ((i : Int) + 1) = (i : Int) + 1 := by rw [IntKind.wrap_i64]; omega
  have hb1 : (0 : Int) ≤ (i : Int) + 1 := by omega
  have htn : ((i : Int) + 1).toNat = i + 1 := by omega
  have hb3 : (i : Int) ≤ (n : Int) := by omega
  have hb4 : (i : Int) + 1 ≤ (n : Int) + 1 := by omega
  have hb5 : (i : Int) ≤ (n : Int) + 1 := by omega
  have hne : ¬ ((i : Int) = (n : Int)) := by omega
  have hro : (n : Int) < (n : Int) + 1 := by omega
  unfold maxLen at hGm
  have hc1 : ¬ (G = i + 1) := by omega
  have hc2 : ¬ (n = i) := by omega
  have hc3 : ¬ (G = i) := by omega
  have hn1 : n + 1 ≤ G := hGn
  rw [← hi, ← ho, ← hX, ← hW0]
  clear hh h0 hx0 h1 hx1 hg1 hgb1 h2 hg2 hgb2 h3 hgb3 hQ hnb hyb hlen hn hi hW0 hW1 hX ho hys hW2 hW3 hkk hik hold hG hROW hZ hR hZl hRl hGn hi0 hz0 hzs hzb hs0
  go_enter Try.func46, Try.ntmps46
  go_wp2_with (first
    | (at_builtin; refine Lib.wpList_append_run _ rfl _ _ _ _ rfl _ _ rfl rfl _ _ (hrz _) ?_)
    | (at_builtin; refine wpList_copy_runI _ rfl _ _ 35 35 rfl _ _ rfl rfl (hcp1 _ _) ?_))
  go_region_law (refine step_copy_runI rfl _ _ 35 35 rfl _ _ (by simp [Act.eval, Act.put]) (by simp [Act.eval, Act.put]) (hcp2 _ _ _) ?_)
  go_wp2
  go_ret
  exact ⟨_, rfl, HE.out.1, HG0.out.trans HE.out.2, .inr ⟨X + 1, rfl, HX.out⟩⟩
/-- A word that is inserted. -/
theorem insert_calls {w : World} {B : Nat} {v : Value} {xs : List Int} (h : UQ w B v xs) (i : Nat) (hi : i ≤ xs.length) (x : Int) (hB : B ≤ w.heap.size) (hl : xs.length ≤ 1000) :
    Calls Try.prog 46 #[v, .int .i64 i, .slice (some ⟨w.heap.size, 0, none⟩) 1 1] (w.alloc (.cells #[.int .u32 x] 22)) (Ins w B v (xs.take i ++ [x] ++ xs.drop i)) := by
  by_cases he : i = xs.length
  · subst he
    rw [List.take_length, List.drop_length, List.append_nil]
    exact insert_end h x hB hl
  · obtain ⟨a, ha⟩ : ∃ a, a = xs.take i := ⟨_, rfl⟩
    obtain ⟨b, hb⟩ : ∃ b, b = xs.drop i := ⟨_, rfl⟩
    have hal : a.length = i := by rw [ha, List.length_take]; omega
    have hx : xs = a ++ b := by rw [ha, hb, List.take_append_drop]
    match b, hb with
    | [], hb => have := congrArg List.length hb; rw [List.length_drop] at this; simp at this; omega
    | y :: b, hb =>
      rw [← ha, ← hb]
      obtain ⟨g, cap, P, S, rfl, hBg, hh, hc, hm⟩ := uq_form h (by omega)
      subst hx
      rw [← hal]
      match S, hh, hc with
      | [], hh, hc => exact insert_grow a b x y hB hh (by simpa using hc) hm hl
      | s0 :: S, hh, hc => exact insert_room a b x y hBg hh (by simpa using hc) hm hl
end Go.Proofs.Ytkginabioolmiaa.Gp
