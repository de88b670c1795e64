/- The mathematics of the sum: CRC-64 by steps, linear and one-to-one. Plain Lean, no program in it. -/
namespace Go.Proofs.Ytgdcklkdigdegaa.Crc
set_option linter.unusedVariables false
set_option linter.unusedSimpArgs false
def poly : BitVec 64 := 0xc96c5795d7870f42#64
def step (x : BitVec 64) : BitVec 64 := if x.getLsbD 0 then (x >>> 1) ^^^ poly else x >>> 1
def steps : Nat → BitVec 64 → BitVec 64
  | 0, x => x
  | n + 1, x => steps n (step x)
def byteStep (x : BitVec 64) (c : UInt8) : BitVec 64 := steps 8 (x ^^^ BitVec.ofNat 64 c.toNat)
def fold (x : BitVec 64) (l : List UInt8) : BitVec 64 := l.foldl byteStep x
def on (s : BitVec 64) (l : List UInt8) : BitVec 64 := ~~~ (fold (~~~ s) l)

theorem step_xor (x y : BitVec 64) : step (x ^^^ y) = step x ^^^ step y := by
  unfold step
  rw [BitVec.getLsbD_xor]
  cases hx : x.getLsbD 0 <;> cases hy : y.getLsbD 0 <;> simp [BitVec.ushiftRight_xor_distrib]
  · ac_rfl
  · ac_rfl
  · rw [show x >>> 1 ^^^ poly ^^^ (y >>> 1 ^^^ poly) = x >>> 1 ^^^ y >>> 1 ^^^ (poly ^^^ poly) by ac_rfl, BitVec.xor_self, BitVec.xor_zero]
theorem steps_xor (n : Nat) : ∀ x y : BitVec 64, steps n (x ^^^ y) = steps n x ^^^ steps n y := by
  induction n with
  | zero => intro x y; rfl
  | succ n ih => intro x y; simp only [steps]; rw [step_xor, ih]
theorem steps_add (m n : Nat) : ∀ x, steps (m + n) x = steps n (steps m x) := by
  induction m with
  | zero => intro x; simp [steps]
  | succ m ih => intro x; rw [Nat.add_right_comm]; simp only [steps]; exact ih _
theorem step_zero : step 0#64 = 0#64 := by decide
theorem steps_zero (n : Nat) : steps n 0#64 = 0#64 := by
  induction n with
  | zero => rfl
  | succ n ih => simp only [steps]; rw [step_zero, ih]
theorem step_shift (x : BitVec 64) (h : x.getLsbD 0 = false) : step x = x >>> 1 := by
  unfold step; rw [h]; rfl
theorem steps_shift (n : Nat) : ∀ x : BitVec 64, (∀ i, i < n → x.getLsbD i = false) → steps n x = x >>> n := by
  induction n with
  | zero => intro x _; simp [steps]
  | succ n ih =>
    intro x h
    simp only [steps]
    rw [step_shift x (h 0 (by omega)), ih]
    · rw [← BitVec.shiftRight_add, Nat.add_comm]
    · intro i hi
      rw [BitVec.getLsbD_ushiftRight]
      exact h (1 + i) (by omega)
theorem nibble (x : BitVec 64) : steps 4 x = (x >>> 4) ^^^ steps 4 (x &&& 15#64) := by
  have h15 : ∀ i, i < 4 → (15#64).getLsbD i = true := by decide
  have e : x = (x &&& ~~~15#64) ^^^ (x &&& 15#64) := by
    apply BitVec.eq_of_getLsbD_eq; intro i hi
    simp only [BitVec.getLsbD_xor, BitVec.getLsbD_and, BitVec.getLsbD_not, hi, decide_true, Bool.true_and]
    cases x.getLsbD i <;> cases (15#64).getLsbD i <;> rfl
  have s : steps 4 (x &&& ~~~15#64) = x >>> 4 := by
    rw [steps_shift]
    · apply BitVec.eq_of_getLsbD_eq; intro i hi
      have : (15#64).getLsbD (4 + i) = false := by
        have : ∀ j, j < 64 → 4 ≤ j → (15#64).getLsbD j = false := by decide
        by_cases h : 4 + i < 64
        · exact this _ h (by omega)
        · exact BitVec.getLsbD_of_ge _ _ (by omega)
      simp only [BitVec.getLsbD_ushiftRight, BitVec.getLsbD_and, BitVec.getLsbD_not, this]
      by_cases h : 4 + i < 64
      · simp [h]
      · simp [BitVec.getLsbD_of_ge x (4 + i) (by omega)]
    · intro i hi
      simp only [BitVec.getLsbD_and, BitVec.getLsbD_not, h15 i hi]; simp
  rw [← s, ← steps_xor, ← e]
theorem step_inj0 (x : BitVec 64) (h : step x = 0#64) : x = 0#64 := by
  unfold step at h
  cases h0 : x.getLsbD 0
  · rw [h0] at h
    simp only [Bool.false_eq_true, if_false] at h
    apply BitVec.eq_of_getLsbD_eq; intro i hi
    rw [BitVec.getLsbD_zero]
    rcases Nat.eq_zero_or_pos i with rfl | hp
    · exact h0
    · have := congrArg (fun z => z.getLsbD (i - 1)) h
      simp only [BitVec.getLsbD_ushiftRight, BitVec.getLsbD_zero] at this
      rwa [show 1 + (i - 1) = i by omega] at this
  · rw [h0] at h
    simp only [if_true] at h
    have := congrArg (fun z => z.getLsbD 63) h
    simp only [BitVec.getLsbD_xor, BitVec.getLsbD_ushiftRight] at this
    rw [BitVec.getLsbD_of_ge x (1 + 63) (by omega)] at this
    exact absurd this (by decide)
theorem xor_eq_zero {x y : BitVec 64} : x ^^^ y = 0#64 ↔ x = y := by
  constructor
  · intro h
    have : (x ^^^ y) ^^^ y = 0#64 ^^^ y := by rw [h]
    rwa [BitVec.xor_assoc, BitVec.xor_self, BitVec.xor_zero, BitVec.zero_xor] at this
  · rintro rfl; exact BitVec.xor_self
theorem steps_inj0 (n : Nat) : ∀ x, steps n x = 0#64 → x = 0#64 := by
  induction n with
  | zero => intro x h; exact h
  | succ n ih => intro x h; exact step_inj0 x (ih _ h)
theorem steps_inj (n : Nat) (x y : BitVec 64) (h : steps n x = steps n y) : x = y :=
  xor_eq_zero.1 (steps_inj0 n _ (by rw [steps_xor]; exact xor_eq_zero.2 h))
theorem byteStep_inj (c : UInt8) (x y : BitVec 64) (h : byteStep x c = byteStep y c) : x = y := by
  have := steps_inj 8 _ _ h
  have h2 := congrArg (· ^^^ BitVec.ofNat 64 c.toNat) this
  simpa [BitVec.xor_assoc] using h2
theorem fold_inj (l : List UInt8) : ∀ x y : BitVec 64, fold x l = fold y l → x = y := by
  induction l with
  | nil => intro x y h; exact h
  | cons c l ih => intro x y h; exact byteStep_inj c x y (ih _ _ h)
theorem on_inj (l : List UInt8) (x y : BitVec 64) : on x l = on y l ↔ x = y := by
  constructor
  · intro h
    have := fold_inj l _ _ (BitVec.not_inj.1 h)
    exact BitVec.not_inj.1 this
  · rintro rfl; rfl
theorem on_append (s : BitVec 64) (a b : List UInt8) : on s (a ++ b) = on (on s a) b := by
  unfold on fold; rw [List.foldl_append, BitVec.not_not]
theorem on_nil (s : BitVec 64) : on s [] = s := by unfold on fold; simp
theorem byteStep_xor (x y : BitVec 64) (c d : UInt8) : byteStep (x ^^^ y) (c ^^^ d) = byteStep x c ^^^ byteStep y d := by
  unfold byteStep
  rw [← steps_xor]
  congr 1
  rw [UInt8.toNat_xor, show BitVec.ofNat 64 (c.toNat ^^^ d.toNat) = BitVec.ofNat 64 c.toNat ^^^ BitVec.ofNat 64 d.toNat from BitVec.ofNat_xor]
  ac_rfl
theorem fold_xor (a : List UInt8) : ∀ (b : List UInt8) (x y : BitVec 64), a.length = b.length → fold (x ^^^ y) (List.zipWith (· ^^^ ·) a b) = fold x a ^^^ fold y b := by
  induction a with
  | nil => intro b x y h; obtain rfl : b = [] := List.eq_nil_of_length_eq_zero h.symm; rfl
  | cons c a ih =>
    intro b x y h
    match b, h with
    | d :: b, h =>
      simp only [List.zipWith_cons_cons, fold, List.foldl_cons]
      rw [byteStep_xor]
      exact ih b _ _ (by simpa using h)
theorem byteStep_00 : byteStep 0#64 0 = 0#64 := by decide
theorem fold_zeros (n : Nat) : fold 0#64 (List.replicate n 0) = 0#64 := by
  induction n with
  | zero => rfl
  | succ n ih => rw [List.replicate_succ]; simp only [fold, List.foldl_cons]; rw [byteStep_00]; exact ih
def le : List UInt8 → Nat
  | [] => 0
  | c :: l => c.toNat + 256 * le l
theorem le_lt (l : List UInt8) : le l < 256 ^ l.length := by
  induction l with
  | nil => simp [le]
  | cons c l ih =>
    have := c.toNat_lt
    simp only [le, List.length_cons, Nat.pow_succ]
    omega
theorem fold_short (l : List UInt8) : ∀ (x : BitVec 64), l.length ≤ 8 → fold x l = steps (8 * l.length) (x ^^^ BitVec.ofNat 64 (le l)) := by
  induction l with
  | nil => intro x _; simp [fold, steps, le]
  | cons c l ih =>
    intro x h
    have hl : l.length ≤ 7 := by simpa using h
    simp only [fold, List.foldl_cons]
    rw [show List.foldl byteStep (byteStep x c) l = fold (byteStep x c) l from rfl, ih _ (by omega)]
    rw [List.length_cons, show 8 * (l.length + 1) = 8 + 8 * l.length by omega, steps_add]
    congr 1
    unfold byteStep
    have hlt := le_lt l
    have hb : le l < 2 ^ 56 := by
      have : 256 ^ l.length ≤ 256 ^ 7 := Nat.pow_le_pow_right (by decide) hl
      exact Nat.lt_of_lt_of_le hlt (Nat.le_trans this (by decide))
    have hc := c.toNat_lt
    have e : BitVec.ofNat 64 (le (c :: l)) = BitVec.ofNat 64 c.toNat ^^^ (BitVec.ofNat 64 (le l) <<< 8) := by
      apply BitVec.eq_of_toNat_eq
      rw [BitVec.toNat_xor, BitVec.toNat_shiftLeft, BitVec.toNat_ofNat, BitVec.toNat_ofNat, BitVec.toNat_ofNat, Nat.shiftLeft_eq]
      simp only [le]
      rw [Nat.mod_eq_of_lt (a := c.toNat) (by omega), Nat.mod_eq_of_lt (a := le l) (by omega), Nat.mod_eq_of_lt (by omega), Nat.mod_eq_of_lt (by omega)]
      have hx : c.toNat ^^^ (le l * 2 ^ 8) = c.toNat + 256 * le l := by
        apply Nat.eq_of_testBit_eq; intro i
        rw [Nat.testBit_xor, show c.toNat + 256 * le l = 2 ^ 8 * le l + c.toNat by omega, Nat.testBit_two_pow_mul_add _ (by simpa using hc), show le l * 2 ^ 8 = 2 ^ 8 * le l by omega, Nat.testBit_two_pow_mul]
        by_cases hi : i < 8
        · rw [if_pos hi]; simp [show ¬ 8 ≤ i by omega]
        · rw [if_neg hi, Nat.testBit_lt_two_pow (x := c.toNat) (i := i) (Nat.lt_of_lt_of_le hc (Nat.pow_le_pow_right (n := 2) (i := 8) (by decide) (by omega)))]
          simp [show 8 ≤ i by omega]
      rw [hx]
    have f : steps 8 (BitVec.ofNat 64 (le l) <<< 8) = BitVec.ofNat 64 (le l) := by
     rw [steps_shift]
     · apply BitVec.eq_of_getLsbD_eq; intro i hi
       rw [BitVec.getLsbD_ushiftRight, BitVec.getLsbD_shiftLeft]
       by_cases h8 : 8 + i < 64
       · simp [h8]
       · have hz : (BitVec.ofNat 64 (le l)).getLsbD i = false := by
           rw [BitVec.getLsbD_ofNat, Nat.testBit_lt_two_pow (Nat.lt_of_lt_of_le hb (Nat.pow_le_pow_right (by decide) (by omega)))]; simp
         rw [hz]; simp [h8]
     · intro i hi
       rw [BitVec.getLsbD_shiftLeft]; simp [hi]
    rw [e, ← BitVec.xor_assoc, steps_xor _ _ (BitVec.ofNat 64 (le l) <<< 8), f]
theorem le_zero (l : List UInt8) : le l = 0 ↔ ∀ c ∈ l, c = 0 := by
  induction l with
  | nil => simp [le]
  | cons c l ih =>
    simp only [le, List.mem_cons, forall_eq_or_imp, ← ih]
    constructor
    · intro h; exact ⟨UInt8.toNat_inj.1 (by simp; omega), by omega⟩
    · rintro ⟨rfl, h⟩; simp [h]
theorem fold_short_zero (l : List UInt8) (h : l.length ≤ 8) : fold 0#64 l = 0#64 ↔ ∀ c ∈ l, c = 0 := by
  rw [fold_short l 0#64 h, ← le_zero]
  constructor
  · intro e
    have := steps_inj0 _ _ e
    rw [BitVec.zero_xor] at this
    have hlt := le_lt l
    have : (BitVec.ofNat 64 (le l)).toNat = 0 := by rw [this]; rfl
    rw [BitVec.toNat_ofNat, Nat.mod_eq_of_lt] at this
    · exact this
    · exact Nat.lt_of_lt_of_le hlt (Nat.le_trans (Nat.pow_le_pow_right (by decide) h) (by decide))
  · intro e; rw [e]; exact steps_zero _
/-- Eight bytes in a row: told just if one of them is no zero. -/
theorem burst (n m : Nat) (l : List UInt8) (h : l.length ≤ 8) : fold 0#64 (List.replicate n 0 ++ l ++ List.replicate m 0) = 0#64 ↔ ∀ c ∈ l, c = 0 := by
  rw [← fold_short_zero l h]
  have e1 : ∀ (x : BitVec 64) (a b : List UInt8), fold x (a ++ b) = fold (fold x a) b := by intro x a b; unfold fold; rw [List.foldl_append]
  rw [e1, e1, fold_zeros]
  constructor
  · intro h2
    refine fold_inj (List.replicate m 0) _ _ ?_
    rw [h2, fold_zeros]
  · intro h2; rw [h2, fold_zeros]
end Go.Proofs.Ytgdcklkdigdegaa.Crc
