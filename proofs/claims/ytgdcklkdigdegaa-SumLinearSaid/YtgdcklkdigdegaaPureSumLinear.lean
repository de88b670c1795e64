/- SumLinear: the sums of three texts of one length, laid over one another, are the sum of the texts laid over one another. No condition beside the row's own. -/
import Derived.Test.YtgdcklkdigdegaaStSumLinear
import Derived.Test.YtgdcklkdigdegaaX3
import Derived.Test.YtgdcklkdigdegaaX10
import Derived.Test.YtgdcklkdigdegaaCrcLink
namespace Go.Proofs.Ytgdcklkdigdegaa.Pure
set_option linter.unusedVariables false
set_option linter.unusedSimpArgs false
open Go.RowKit Go.Proofs.Ytgdcklkdigdegaa.X Go.Proofs.YtgdcklkdigdegaaW.PrintWords Go.Proofs.YtgdcklkdigdegaaW.PrintLast
open Go.Proofs.Ytgdcklkdigdegaa Go.Proofs.Ytgdcklkdigdegaa.Link

theorem xor_u8 (a b : UInt8) : Go.bits .xor .u8 (a.toNat : Int) (b.toNat : Int) = ((a ^^^ b).toNat : Int) := by
  show IntKind.u8.wrap (((BitVec.ofInt 8 (a.toNat : Int)) ^^^ (BitVec.ofInt 8 (b.toNat : Int))).toNat : Int) = _
  have ha := a.toNat_lt
  have hb := b.toNat_lt
  have hx := (a ^^^ b).toNat_lt
  rw [BitVec.ofInt_natCast, BitVec.ofInt_natCast, BitVec.toNat_xor, BitVec.toNat_ofNat, BitVec.toNat_ofNat, Nat.mod_eq_of_lt ha, Nat.mod_eq_of_lt hb, UInt8.toNat_xor] at *
  show (((a.toNat ^^^ b.toNat : Nat) : Int) % 2 ^ 8) = _
  omega
/-- The bytes of three texts laid over one another. -/
def over (a b c : ByteArray) (n : Nat) : List UInt8 := List.zipWith (· ^^^ ·) (List.zipWith (· ^^^ ·) (a.data.toList.take n) (b.data.toList.take n)) (c.data.toList.take n)
def ints (l : List UInt8) : List Int := l.map fun x => (x.toNat : Int)
theorem over_len (a b c : ByteArray) (n : Nat) (ha : n ≤ a.size) (hb : n ≤ b.size) (hc : n ≤ c.size) : (over a b c n).length = n := by
  simp [over]; omega
theorem over_succ (a b c : ByteArray) (n : Nat) (ha : n < a.size) (hb : n < b.size) (hc : n < c.size) : over a b c (n + 1) = over a b c n ++ [a[n] ^^^ b[n] ^^^ c[n]] := by
  unfold over
  rw [List.take_succ_eq_append_getElem (l := a.data.toList) (by simpa using ha), List.take_succ_eq_append_getElem (l := b.data.toList) (by simpa using hb), List.take_succ_eq_append_getElem (l := c.data.toList) (by simpa using hc)]
  rw [List.zipWith_append (by simp; omega), List.zipWith_append (by simp; omega)]
  rfl
theorem str_ints (l : List UInt8) : (strOfNums (ints l)).data.toList = l := by
  have : ∀ l : List UInt8, (ints l).map (fun n => UInt8.ofNat n.toNat) = l := by
    intro l
    induction l with
    | nil => rfl
    | cons x l ih => simp only [ints, List.map_cons] at ih ⊢; rw [ih]; simp
  simp [strOfNums, this]
theorem last (a b c : ByteArray) (n : Nat) (ha : n ≤ a.size) (hb : n ≤ b.size) (hc : n ≤ c.size) (hs : n ≤ 140737488351232) :
    ∃ x y z t, sum_Of.f (a.extract 0 n) = some x ∧ sum_Of.f (b.extract 0 n) = some y ∧ sum_Of.f (c.extract 0 n) = some z ∧ sum_Of.f (strOfNums (ints (over a b c n))) = some t ∧ Go.bits .xor .u64 (Go.bits .xor .u64 x y) z = t := by
  have sz : ∀ s : ByteArray, n ≤ s.size → (s.extract 0 n).size = n ∧ (s.extract 0 n).data.toList = s.data.toList.take n := by
    intro s h
    constructor
    · simp; omega
    · simp
  have szt : (strOfNums (ints (over a b c n))).size = n := by
    have h1 : (strOfNums (ints (over a b c n))).data.toList.length = n := by rw [str_ints, over_len a b c n ha hb hc]
    simpa using h1
  refine ⟨_, _, _, _, of_enc' _ (by have := (sz a ha).1; omega), of_enc' _ (by have := (sz b hb).1; omega), of_enc' _ (by have := (sz c hc).1; omega), of_enc' _ (by omega), ?_⟩
  rw [xor_enc, xor_enc, enc_inj, (sz a ha).2, (sz b hb).2, (sz c hc).2, str_ints]
  unfold Crc.on over
  have e1 := Crc.fold_xor (a.data.toList.take n) (b.data.toList.take n) (~~~ 0#64) (~~~ 0#64) (by simp; omega)
  have e2 := Crc.fold_xor (List.zipWith (· ^^^ ·) (a.data.toList.take n) (b.data.toList.take n)) (c.data.toList.take n) (~~~ 0#64 ^^^ ~~~ 0#64) (~~~ 0#64) (by simp; omega)
  rw [e1] at e2
  rw [show ((~~~ 0#64 ^^^ ~~~ 0#64) ^^^ ~~~ 0#64 : BitVec 64) = ~~~ 0#64 by decide] at e2
  rw [e2]
  generalize Crc.fold (~~~ 0#64) (List.take n a.data.toList) = p
  generalize Crc.fold (~~~ 0#64) (List.take n b.data.toList) = q
  generalize Crc.fold (~~~ 0#64) (List.take n c.data.toList) = r
  apply BitVec.eq_of_getLsbD_eq; intro i hi
  simp only [BitVec.getLsbD_xor, BitVec.getLsbD_not, hi, decide_true, Bool.true_and]
  cases p.getLsbD i <;> cases q.getLsbD i <;> cases r.getLsbD i <;> rfl
theorem loop (a b c : ByteArray) (n : Nat) (ha : n ≤ a.size) (hb : n ≤ b.size) (hc : n ≤ c.size) (hs : n ≤ 140737488351232) (d : Nat) :
    ∀ (k i : Nat), i + d = n → d < k → cofferlaw01_SumLinear.l0 k a b c (n : Int) (ints (over a b c i)) (i : Int) = some true := by
  induction d with
  | zero =>
    intro k i h hk
    obtain ⟨k, rfl⟩ : ∃ q, k = q + 1 := ⟨k - 1, by omega⟩
    obtain rfl : i = n := by omega
    obtain ⟨x, y, z, t, h1, h2, h3, h4, h5⟩ := last a b c i ha hb hc hs
    simp only [cofferlaw01_SumLinear.l0, Int.toNat_natCast]
    rw [if_neg (by omega), if_pos (by omega), if_pos (by omega), h1]
    simp only [Option.bind_some]
    rw [if_pos (by omega), h2]
    simp only [Option.bind_some]
    rw [if_pos (by omega), h3, h4]
    simp [h5]
  | succ d ih =>
    intro k i h hk
    obtain ⟨k, rfl⟩ : ∃ q, k = q + 1 := ⟨k - 1, by omega⟩
    have la : i < a.size := by omega
    have lb : i < b.size := by omega
    have lc : i < c.size := by omega
    have hw : wrap64 ((i : Int) + 1) = ((i + 1 : Nat) : Int) := by unfold wrap64; omega
    have hl : (ints (over a b c i)).length = i := by rw [ints, List.length_map, over_len a b c i (by omega) (by omega) (by omega)]
    have b1 := bt_at a i (by simpa using la)
    have b2 := bt_at b i (by simpa using lb)
    have b3 := bt_at c i (by simpa using lc)
    have hx : Go.bits .xor .u8 (Go.bits .xor .u8 (bt a i) (bt b i)) (bt c i) = ((a[i] ^^^ b[i] ^^^ c[i]).toNat : Int) := by
      rw [← b1, ← b2, ← b3, xor_u8, xor_u8]; rfl
    simp only [cofferlaw01_SumLinear.l0]
    rw [if_pos (by omega), if_pos (by omega), if_pos (by omega), if_pos (by omega), if_pos (by omega), if_pos (by omega), hx, hw]
    have : ints (over a b c i) ++ [((a[i] ^^^ b[i] ^^^ c[i]).toNat : Int)] = ints (over a b c (i + 1)) := by
      rw [over_succ a b c i la lb lc]; simp [ints]
    rw [this]
    exact ih k (i + 1) (by omega) (by omega)
theorem SumLinear : cofferlaw01_SumLinear.Pure := by
  intro a b c h0 h1 h2
  refine ⟨a.size + 10, ?_⟩
  unfold cofferlaw01_SumLinear.f
  rw [first_true]
  simp only [Option.bind_some, if_true]
  have key : ∀ n : Nat, n ≤ a.size → n ≤ b.size → cofferlaw01_SumLinear.j0 (a.size + 10) a b c (n : Int) = some true := by
    intro n ha hb
    show cofferlaw01_SumLinear.j0 (a.size + 8 + 1 + 1) a b c (n : Int) = _
    obtain ⟨m, hm⟩ : ∃ m, a.size + 8 = m := ⟨_, rfl⟩
    rw [hm]
    simp only [cofferlaw01_SumLinear.j0, cofferlaw01_SumLinear.j1]
    by_cases h : (c.size : Int) < (n : Int)
    · rw [if_pos h]
      exact loop a b c c.size (by omega) (by omega) (by omega) (by omega) c.size m 0 (by omega) (by omega)
    · rw [if_neg h]
      exact loop a b c n ha hb (by omega) (by omega) n m 0 (by omega) (by omega)
  by_cases h : (b.size : Int) < (a.size : Int)
  · rw [if_pos h]; exact key b.size (by omega) (by omega)
  · rw [if_neg h]; exact key a.size (by omega) (by omega)
end Go.Proofs.Ytgdcklkdigdegaa.Pure
