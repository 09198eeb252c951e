import Derived.Test.YthflkloghbhhgaaDoorCrF
/- The plain law of joining: a text's sum out of its parts' sums. -/
namespace Go.Proofs.YthflkloghbhhgaaDoor.Cr
set_option linter.unusedVariables false
set_option linter.unusedSimpArgs false
/-- A bit's step. -/
def st (c : Nat) : Nat := (c / 2) ^^^ (if c % 2 = 1 then 2197175160 else 0)
def it (f : Nat → Nat) : Nat → Nat → Nat
  | 0, x => x
  | n + 1, x => it f n (f x)
theorem it_add (f : Nat → Nat) (a b x : Nat) : it f (a + b) x = it f b (it f a x) := by
  induction a generalizing x with
  | zero => simp [it]
  | succ a ih => rw [Nat.succ_add]; exact ih (f x)
theorem it_mul (f : Nat → Nat) (a b x : Nat) : it f (a * b) x = it (it f a) b x := by
  induction b generalizing x with
  | zero => rfl
  | succ b ih => rw [Nat.mul_succ, Nat.add_comm, it_add, ih]; rfl
def Lin (f : Nat → Nat) : Prop := ∀ a b, f (a ^^^ b) = f a ^^^ f b
theorem Lin.zero {f : Nat → Nat} (h : Lin f) : f 0 = 0 := by
  have := h 0 0
  rw [Nat.xor_self, Nat.xor_self] at this
  exact this
theorem Lin.it {f : Nat → Nat} (h : Lin f) (n : Nat) : Lin (it f n) := by
  induction n with
  | zero => exact fun a b => rfl
  | succ n ih => intro a b; show Cr.it f n (f (a ^^^ b)) = _; rw [h, ih]; rfl
theorem x4 (a b c d : Nat) : (a ^^^ b) ^^^ (c ^^^ d) = (a ^^^ c) ^^^ (b ^^^ d) := by
  rw [Nat.xor_assoc, Nat.xor_assoc, ← Nat.xor_assoc b c d, Nat.xor_comm b c, Nat.xor_assoc c b d]
theorem xor_cancel (a b : Nat) : a ^^^ (a ^^^ b) = b := by rw [← Nat.xor_assoc, Nat.xor_self, Nat.zero_xor]
theorem st_lin : Lin st := by
  intro a b
  unfold st
  have h1 : (a ^^^ b) / 2 = (a / 2) ^^^ (b / 2) := Nat.xor_div_two
  have h2 : (a ^^^ b) % 2 = (a % 2) ^^^ (b % 2) := Nat.xor_mod_two_pow (n := 1)
  rw [h1, h2, x4]
  congr 1
  rcases Nat.mod_two_eq_zero_or_one a with ha | ha <;> rcases Nat.mod_two_eq_zero_or_one b with hb | hb <;> rw [ha, hb] <;> decide
theorem st_lt {c : Nat} (h : c < 4294967296) : st c < 4294967296 := xor_lt32 (by omega) (by split <;> decide)
theorem it_lt {f : Nat → Nat} (hf : ∀ c, c < 4294967296 → f c < 4294967296) (n : Nat) {c : Nat} (h : c < 4294967296) : it f n c < 4294967296 := by
  induction n generalizing c with
  | zero => exact h
  | succ n ih => exact ih (hf c h)
/-- The bits below k of a number and the bit k. -/
theorem mod_succ (c k : Nat) : c % 2 ^ (k + 1) = (c % 2 ^ k) ^^^ (if c / 2 ^ k % 2 = 1 then 2 ^ k else 0) := by
  apply Nat.eq_of_testBit_eq
  intro i
  have hb : (c / 2 ^ k % 2 = 1) = (c.testBit k = true) := by rw [Nat.testBit_eq_decide_div_mod_eq]; simp
  rw [Nat.testBit_mod_two_pow, Nat.testBit_xor, Nat.testBit_mod_two_pow]
  rcases Nat.lt_trichotomy i k with h | h | h
  · have h1 : decide (i < k + 1) = true := by simp; omega
    have h2 : decide (i < k) = true := by simp; omega
    rw [h1, h2]
    split
    · rw [Nat.testBit_two_pow_of_ne (by omega)]; simp
    · simp
  · subst h
    have h1 : decide (i < i + 1) = true := by simp
    have h2 : decide (i < i) = false := by simp
    rw [h1, h2]
    split
    · rename_i h
      rw [hb] at h
      rw [h, Nat.testBit_two_pow_self]; rfl
    · rename_i h
      rw [hb] at h
      have : c.testBit i = false := by simpa using h
      rw [this, Nat.zero_testBit]; rfl
  · have h1 : decide (i < k + 1) = false := by simp; omega
    have h2 : decide (i < k) = false := by simp; omega
    rw [h1, h2]
    split
    · rw [Nat.testBit_two_pow_of_ne (by omega)]; rfl
    · simp
/-- A matrix whose rows are what a linear step makes of the bits is that step. -/
theorem of_lin {f : Nat → Nat} (hf : Lin f) (m : List Nat) (hm : ∀ i, i < 32 → mr m i = f (2 ^ i)) (c : Nat) (hc : c < 4294967296) : ofN m c 32 = f c := by
  have h : ∀ k, k ≤ 32 → ofN m c k = f (c % 2 ^ k) := by
    intro k
    induction k with
    | zero => intro _; rw [Nat.pow_zero, Nat.mod_one, hf.zero]; rfl
    | succ k ih =>
      intro hk
      rw [mod_succ, hf, ← ih (by omega)]
      show (if c / 2 ^ k % 2 = 1 then ofN m c k ^^^ mr m k else ofN m c k) = _
      split
      · rw [hm k (by omega)]
      · rw [hf.zero, Nat.xor_zero]
  rw [h 32 (Nat.le_refl _), Nat.mod_eq_of_lt (by exact hc)]
theorem of_isLin (m : List Nat) (k : Nat) : Lin (fun c => ofN m c k) := by
  intro a b
  induction k with
  | zero => exact (Nat.xor_self 0).symm
  | succ k ih =>
    have hb : ∀ c : Nat, (c / 2 ^ k % 2 = 1) = (c.testBit k = true) := by intro c; rw [Nat.testBit_eq_decide_div_mod_eq]; simp
    show (if (a ^^^ b) / 2 ^ k % 2 = 1 then ofN m (a ^^^ b) k ^^^ mr m k else ofN m (a ^^^ b) k) = (if a / 2 ^ k % 2 = 1 then ofN m a k ^^^ mr m k else ofN m a k) ^^^ (if b / 2 ^ k % 2 = 1 then ofN m b k ^^^ mr m k else ofN m b k)
    have ih : ofN m (a ^^^ b) k = ofN m a k ^^^ ofN m b k := ih
    simp only [hb, Nat.testBit_xor, ih]
    cases a.testBit k <;> cases b.testBit k <;> simp
    · rw [Nat.xor_assoc]
    · rw [Nat.xor_assoc, Nat.xor_assoc, Nat.xor_comm (ofN m b k)]
    · rw [x4, Nat.xor_self, Nat.xor_zero]
theorem mr_tw (m : List Nat) (i : Nat) (h : i < 32) : mr (twN m 32) i = ofN m (mr m i) 32 := by
  unfold mr twN
  rw [List.getD_eq_getElem?_getD, List.getElem?_eq_getElem (by simpa using h)]
  simp [h, mr]
theorem of_tw (m : List Nat) (c : Nat) (hc : c < 4294967296) (f : Nat → Nat) (hf : Lin f) (hm : ∀ c, c < 4294967296 → ofN m c 32 = f c) (hg : Good m) : ofN (twN m 32) c 32 = f (f c) := by
  refine of_lin (f := fun c => f (f c)) (fun a b => by show f (f (a ^^^ b)) = _; rw [hf, hf]) _ (fun i hi => ?_) c hc
  have hp : 2 ^ i < 4294967296 := Nat.pow_lt_pow_right (by decide) hi
  rw [mr_tw m i hi, hm _ (hg i)]
  congr 1
  rw [← hm _ hp]
  have : ∀ k, k ≤ 32 → ofN m (2 ^ i) k = if i < k then mr m i else 0 := by
    intro k
    induction k with
    | zero => intro _; rfl
    | succ k ih =>
      intro hk
      show (if 2 ^ i / 2 ^ k % 2 = 1 then ofN m (2 ^ i) k ^^^ mr m k else ofN m (2 ^ i) k) = _
      have hb : (2 ^ i / 2 ^ k % 2 = 1) = ((2 ^ i).testBit k = true) := by rw [Nat.testBit_eq_decide_div_mod_eq]; simp
      rw [ih (by omega)]
      simp only [hb, Nat.testBit_two_pow]
      by_cases h : i = k
      · subst h; simp
      · simp [h]
        by_cases h2 : i < k
        · rw [if_pos h2, if_pos (by omega)]
        · rw [if_neg h2, if_neg (by omega)]
  rw [this 32 (Nat.le_refl _), if_pos hi]
theorem of_bit (c : Nat) (hc : c < 4294967296) : ofN (bitN 32) c 32 = st c := by
  refine of_lin st_lin _ (fun i hi => ?_) c hc
  have : ∀ j : Fin 32, mr (bitN 32) j.1 = st (2 ^ j.1) := by decide
  exact this ⟨i, hi⟩
theorem of_pw (k : Nat) : ∀ c, c < 4294967296 → ofN (pw (bitN 32) k) c 32 = it st (2 ^ k) c := by
  induction k with
  | zero => exact fun c hc => of_bit c hc
  | succ k ih =>
    intro c hc
    rw [show ofN (pw (bitN 32) (k + 1)) c 32 = ofN (twN (pw (bitN 32) k) 32) c 32 from rfl, of_tw _ c hc (it st (2 ^ k)) (st_lin.it _) ih (good_pw good_bit k), Nat.pow_succ, Nat.mul_comm, Nat.mul_comm, Nat.mul_two, it_add]
theorem join_it : ∀ (f : Nat) (m : List Nat) (a k : Nat) (g : Nat → Nat), Lin g → (∀ c, c < 4294967296 → g c < 4294967296) → (∀ c, c < 4294967296 → ofN m c 32 = g c) → Good m → a < 4294967296 → k < 2 ^ f → joinF f m a k = it g k a
  | 0, m, a, k, g, _, _, _, _, _, hk => by
    obtain rfl : k = 0 := by rw [Nat.pow_zero] at hk; omega
    rfl
  | f + 1, m, a, k, g, hg, hl, hm, hG, ha, hk => by
    unfold joinF
    by_cases h0 : k = 0
    · subst h0; rfl
    · rw [if_neg h0]
      have hk2 : k / 2 < 2 ^ f := by rw [Nat.pow_succ] at hk; omega
      have ih := fun a ha => join_it f (twN m 32) a (k / 2) (fun c => g (g c)) (fun a b => by show g (g (a ^^^ b)) = _; rw [hg, hg]) (fun c hc => hl _ (hl c hc)) (fun c hc => of_tw m c hc g hg hm hG) (good_tw m hG) ha hk2
      have e2 : ∀ n x, it (fun c => g (g c)) n x = it g (2 * n) x := fun n x => (it_mul g 2 n x).symm
      by_cases h1 : k % 2 = 1
      · rw [if_pos h1, hm a ha, ih _ (hl a ha), e2]
        conv => rhs; rw [show k = 2 * (k / 2) + 1 by omega]
        rfl
      · rw [if_neg h1, ih a ha, e2]
        congr 1
        omega
/-- Four bits at once. -/
theorem nib_eq (c : Nat) : nib c = it st 4 c := by
  have h1 : c = (16 * (c / 16)) ^^^ (c % 16) := by
    apply Nat.eq_of_testBit_eq
    intro i
    rw [Nat.testBit_xor, show 16 = 2 ^ 4 from rfl, Nat.testBit_mod_two_pow, Nat.testBit_two_pow_mul, Nat.testBit_div_two_pow]
    by_cases h : i < 4
    · have h2 : decide (i < 4) = true := by simpa using h
      have h3 : decide (4 ≤ i) = false := by simp; omega
      simp [h2, h3]
    · have h2 : decide (i < 4) = false := by simpa using h
      have h3 : decide (4 ≤ i) = true := by simp; omega
      rw [h2, h3]
      simp
      congr 1
      omega
  have h2 : ∀ q, st (2 * q) = q := by
    intro q
    unfold st
    rw [if_neg (by omega), Nat.xor_zero]
    omega
  have h3 : it st 4 (16 * (c / 16)) = c / 16 := by
    rw [show 16 * (c / 16) = 2 * (2 * (2 * (2 * (c / 16)))) by omega]
    show st (st (st (st (2 * (2 * (2 * (2 * (c / 16)))))))) = _
    rw [h2, h2, h2, h2]
  have h4 : it st 4 (c % 16) = hv (c % 16) := by
    have : ∀ j : Fin 16, it st 4 j.1 = hv j.1 := by decide
    exact this ⟨c % 16, Nat.mod_lt _ (by decide)⟩
  conv => rhs; rw [h1]
  rw [st_lin.it 4, h3, h4]
  rfl
theorem byt_eq (c : Nat) (x : Int) : byt c x = it st 8 (c ^^^ x.toNat) := by
  unfold byt
  rw [nib_eq, nib_eq, ← it_add]
theorem run_lin (c d : Nat) (l : List Int) : run c l = it (it st 8) l.length (c ^^^ d) ^^^ run d l := by
  induction l generalizing c d with
  | nil => show c = (c ^^^ d) ^^^ d; rw [Nat.xor_assoc, Nat.xor_self, Nat.xor_zero]
  | cons x r ih =>
    show run (byt c x) r = it (it st 8) r.length (it st 8 (c ^^^ d)) ^^^ run (byt d x) r
    rw [ih (byt c x) (byt d x)]
    congr 2
    rw [byt_eq, byt_eq, ← st_lin.it 8, x4, Nat.xor_self, Nat.xor_zero]
theorem sum_one (a : List Int) : sum [a] = 4294967295 ^^^ run 4294967295 a := rfl
theorem sum_two (a b : List Int) : sum [a, b] = sum [a ++ b] := by
  show 4294967295 ^^^ run (run 4294967295 a) b = 4294967295 ^^^ run 4294967295 (a ++ b)
  rw [run_append]
theorem sum_three (a b : List Int) : sum [a, [], b] = sum [a ++ b] := by
  show 4294967295 ^^^ run (run (run 4294967295 a) []) b = 4294967295 ^^^ run 4294967295 (a ++ b)
  rw [run_append]; rfl
theorem join_sum (a b : List Int) (ha : ∀ x ∈ a, x.toNat < 256) (hb : b.length < 1048576) : joinF 21 (pw (bitN 32) 3) (sum [a]) b.length ^^^ sum [b] = sum [a ++ b] := by
  have hs : sum [a] < 4294967296 := by rw [sum_one]; exact xor_lt32 (by decide) (run_lt _ (by decide) ha)
  rw [join_it 21 _ (sum [a]) b.length (it st 8) (st_lin.it 8) (fun c hc => it_lt (fun c => st_lt) 8 hc) (of_pw 3) (good_pw good_bit 3) hs (by omega)]
  rw [sum_one, sum_one, sum_one, run_append, run_lin (run 4294967295 a) 4294967295 b, Nat.xor_comm (run 4294967295 a) 4294967295, ← Nat.xor_assoc, ← Nat.xor_assoc, Nat.xor_comm _ 4294967295]
end Go.Proofs.YthflkloghbhhgaaDoor.Cr
