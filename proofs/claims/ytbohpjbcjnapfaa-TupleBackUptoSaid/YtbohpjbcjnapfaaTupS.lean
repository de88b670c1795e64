/- Chapter 5: the program's Read, in plain words. -/
import Derived.Test.YtbohpjbcjnapfaaTupQ
import Derived.Test.YtbohpjbcjnapfaaX20
import Derived.Test.YtbohpjbcjnapfaaX32
import Derived.Test.YtbohpjbcjnapfaaX33
import Derived.Test.YtbohpjbcjnapfaaX34
import Derived.Test.YtbohpjbcjnapfaaX35
namespace Go.Proofs.Ytbohpjbcjnapfaa.TupM
open Go.RowKit Go.Proofs.Ytbohpjbcjnapfaa.X Go.Proofs.YtbohpjbcjnapfaaW.PrintWords Go.Proofs.YtbohpjbcjnapfaaW.PrintLast
set_option linter.unusedVariables false
set_option linter.unusedSimpArgs false

theorem tx_tl (l : List UInt8) : (tx l).toList = l := by rw [ByteArray.toList_eq]; rfl
theorem or_add64 (v c : Int) (h0 : 0 ≤ v) (h1 : v < 72057594037927936) (h2 : 0 ≤ c) (h3 : c < 256) : Go.bits .or .u64 (IntKind.u64.wrap (v * 256)) (IntKind.u64.wrap c) = v * 256 + c := by
  have l : Go.bits .or .u64 (IntKind.u64.wrap (v * 256)) (IntKind.u64.wrap c) = IntKind.u64.wrap ((BitVec.ofInt 64 (IntKind.u64.wrap (v * 256)) ||| BitVec.ofInt 64 (IntKind.u64.wrap c)).toNat : Int) := rfl
  obtain ⟨a, rfl⟩ := Int.eq_ofNat_of_zero_le h0
  obtain ⟨b, rfl⟩ := Int.eq_ofNat_of_zero_le h2
  have w : ∀ n : Int, IntKind.u64.wrap n = n % 18446744073709551616 := fun _ => rfl
  have hw : IntKind.u64.wrap ((a : Int) * 256) = ((a * 256 : Nat) : Int) := by rw [w]; omega
  have hw2 : IntKind.u64.wrap (b : Int) = ((b : Nat) : Int) := by rw [w]; omega
  rw [l, hw, hw2, BitVec.toNat_or, BitVec.ofInt_natCast, BitVec.ofInt_natCast, BitVec.toNat_ofNat, BitVec.toNat_ofNat, Nat.mod_eq_of_lt (by omega), Nat.mod_eq_of_lt (by omega)]
  have : a * 256 ||| b = a * 256 + b := by
    have := Nat.two_pow_add_eq_or_of_lt (i := 8) (b := b) (by omega) a
    rw [Nat.mul_comm] at this
    exact this.symm
  rw [this, w]; omega
theorem bt_tx (l : List UInt8) (i : Nat) (h : i < l.length) : bt (tx l) (i : Int) = ((l[i]'h).toNat : Int) := by
  unfold bt
  rw [dif_pos (by rw [tx_size]; omega)]
  rw [tx_get]; rfl
theorem valF_step (l : List UInt8) (i : Nat) (h : i < l.length) (h8 : i < 8) : Go.bits .or .u64 (IntKind.u64.wrap (valF (l.take i) * 256)) (IntKind.u64.wrap (bt (tx l) (i : Int))) = valF (l.take (i + 1)) := by
  have hr := valF_range (l.take i)
  rw [List.length_take, Nat.min_eq_left (by omega)] at hr
  have hp : (256 : Int) ^ i ≤ 72057594037927936 := by
    have : i = 0 ∨ i = 1 ∨ i = 2 ∨ i = 3 ∨ i = 4 ∨ i = 5 ∨ i = 6 ∨ i = 7 := by omega
    rcases this with rfl | rfl | rfl | rfl | rfl | rfl | rfl | rfl <;> decide
  have hc := (l[i]'h).toNat_lt
  rw [bt_tx l i h, or_add64 _ _ hr.1 (by omega) (by omega) (by omega), List.take_succ_eq_append_getElem h, valF_snoc]
theorem w64_succ (i : Nat) (h : i < 4294967296) : wrap64 ((i : Int) + 1) = ((i + 1 : Nat) : Int) := by unfold wrap64; omega
theorem value_l0 (l : List UInt8) (h : 8 ≤ l.length) : ∀ (d i k : Nat), i + d = 8 → d < k → tuple_value.l0 k (tx l) (valF (l.take i)) (i : Int) = some (valF (l.take 8))
  | 0, i, k, e, hk => by
    obtain ⟨k, rfl⟩ : ∃ q, k = q + 1 := ⟨k - 1, by omega⟩
    obtain rfl : i = 8 := by omega
    simp only [tuple_value.l0]
    rw [if_neg (by omega)]
  | d + 1, i, k, e, hk => by
    obtain ⟨k, rfl⟩ : ∃ q, k = q + 1 := ⟨k - 1, by omega⟩
    simp only [tuple_value.l0]
    rw [if_pos (by omega), if_pos (by omega), if_pos (by rw [tx_size]; omega), valF_step l i (by omega) (by omega), w64_succ i (by omega)]
    exact value_l0 l h d (i + 1) k (by omega) (by omega)
theorem value_f (l : List UInt8) (h : 8 ≤ l.length) (k : Nat) (hk : 9 ≤ k) : tuple_value.f k (tx l) = some (valF (l.take 8)) := value_l0 l h 8 0 k (by omega) (by omega)
theorem reads_f (l : List UInt8) (h : l.length ≤ 140737488355328) : tuple_reads.f (tx l) = some (match rdL l [] with | some q => (tx q.1, tx q.2, true) | none => (tx [], tx [], false)) := by
  unfold tuple_reads.f
  rw [if_pos (by rw [tx_size]; exact h)]
  have e := rdB_eq l []
  cases hr : rdL l [] with
  | none => rw [hr] at e; rw [rdF_none e]; rfl
  | some q => obtain ⟨t, r⟩ := q; rw [hr] at e; rw [rdF_some e]; rfl
theorem w64_byte (c : UInt8) : wrap64 (c.toNat : Int) = (c.toNat : Int) := by have := c.toNat_lt; unfold wrap64; omega
theorem part_f (c : UInt8) (l : List UInt8) (h : l.length ≤ 140737488355328) (k : Nat) (hk : 10 ≤ k) :
    ∃ q, tuple_part.f k (tx (c :: l)) = some q ∧ match pt (c :: l) with | some (p, r) => q = (p.f0, p.f1, p.f2, tx r, true) | none => q.2.2.2.2 = false := by
  obtain ⟨k, rfl⟩ : ∃ q, k = q + 1 := ⟨k - 1, by omega⟩
  have hb : bt (tx (c :: l)) 0 = (c.toNat : Int) := bt_tx (c :: l) 0 (by simp)
  have hx : (tx (c :: l)).extract 1 (tx (c :: l)).size = tx l := by rw [tx_from]; rfl
  unfold tuple_part.f
  rw [if_pos (by rw [tx_size, List.length_cons]; omega), if_pos (by rw [tx_size, List.length_cons]; omega), hb, w64_byte, hx]
  simp only [pt]
  by_cases h1 : c.toNat = 1
  · rw [if_pos (by omega), if_pos h1, reads_f l h]
    cases hr : rdL l [] with
    | none => exact ⟨_, rfl, rfl⟩
    | some q => obtain ⟨t, r⟩ := q; exact ⟨_, rfl, rfl⟩
  · rw [if_neg (by omega), if_neg h1]
    by_cases h2 : c.toNat = 2
    · rw [if_pos (by omega), if_pos h2]
      simp only [tuple_part.j0]
      by_cases h8 : l.length < 8
      · rw [if_pos (by rw [tx_size]; exact decide_eq_true (by omega)), if_pos h8]
        exact ⟨_, rfl, rfl⟩
      · rw [if_neg (by rw [tx_size]; simp; omega), if_neg h8, value_f l (by omega) k (by omega)]
        simp only [Option.bind_some]
        rw [if_neg (by omega), if_pos (by rw [tx_size]; omega), tx_from]
        exact ⟨_, rfl, by rw [h2]; rfl⟩
    · rw [if_neg (by omega), if_neg h2]
      by_cases h3 : c.toNat = 3
      · rw [if_pos (by omega), if_pos h3]
        simp only [tuple_part.j0]
        by_cases h8 : l.length < 8
        · rw [if_pos (by rw [tx_size]; exact decide_eq_true (by omega)), if_pos h8]
          exact ⟨_, rfl, rfl⟩
        · rw [if_neg (by rw [tx_size]; simp; omega), if_neg h8, value_f l (by omega) k (by omega)]
          simp only [Option.bind_some]
          rw [if_pos (by omega), if_pos (by rw [tx_size]; omega), tx_from]
          exact ⟨_, rfl, by rw [h3]; rfl⟩
      · rw [if_neg (by omega), if_neg h3]
        simp only [tuple_part.j0]
        rw [if_pos trivial]
        exact ⟨_, rfl, rfl⟩
theorem write_f (l : List S52) (h : (encL l).length + 40 ≤ 140737488355328) : tuple_Write.f l = some (wrF l) := by unfold tuple_Write.f; rw [if_pos h]
theorem encL_append (a b : List S52) : encL (a ++ b) = encL a ++ encL b := by unfold encL; rw [List.flatMap_append]
theorem read_l0 (b : List UInt8) : ∀ (n : Nat) (l : List UInt8) (x4 : List S52), l.length < n → l.length + x4.length ≤ 4398046511000 → (∀ p ∈ x4, okP p) → (encL x4).length + 12 * l.length ≤ 140737488355000 →
    ∃ K, ∀ k, K ≤ k → tuple_Read.l0 k (tx b) x4 (tx l) = some (match ptA n l with | none => ([], 4) | some ps => if encL (x4 ++ ps) = b then (x4 ++ ps, 0) else ([], 4))
  | 0, l, x4, hn, _, _, _ => by omega
  | n + 1, [], x4, hn, hl, hv, he => by
    refine ⟨1, fun k hk => ?_⟩
    obtain ⟨k, rfl⟩ : ∃ q, k = q + 1 := ⟨k - 1, by omega⟩
    have ha : x4.all vld = true := List.all_eq_true.2 fun p hp => (hv p hp).1
    simp only [tuple_Read.l0, ptA]
    rw [if_pos (tx_tl []), if_pos trivial, write_f x4 (by omega)]
    simp only [Option.bind_some]
    unfold wrF
    rw [if_pos ha]
    simp only [List.append_nil]
    rw [if_pos trivial]
    have e1 : (⟨(encL x4).toArray⟩ : ByteArray).toList = encL x4 := tx_tl _
    rw [e1, tx_tl]
    by_cases hc : encL x4 = b
    · rw [if_pos hc, if_pos hc]
    · rw [if_neg hc, if_neg hc]
  | n + 1, c :: l, x4, hn, hl, hv, he => by
    simp only [List.length_cons] at hn hl he
    cases hp : pt (c :: l) with
    | none =>
      refine ⟨12, fun k hk => ?_⟩
      obtain ⟨k, rfl⟩ : ∃ q, k = q + 1 := ⟨k - 1, by omega⟩
      obtain ⟨q, hq, hm⟩ := part_f c l (by omega) k (by omega)
      rw [hp] at hm
      simp only at hm
      simp only [tuple_Read.l0, ptA]
      rw [if_neg (by rw [tx_tl]; simp), if_neg (by simp), hq, hp]
      simp only [Option.bind_some, Option.bind_none]
      rw [hm]; rfl
    | some q =>
      obtain ⟨p, r⟩ := q
      obtain ⟨ok, h1, h2, _⟩ := pt_some hp
      simp only [List.length_cons] at h1 h2
      have ex : encL (x4 ++ [p]) = encL x4 ++ encP p := by rw [encL_append, encL_cons p [] ok.1]; simp [encL]
      obtain ⟨K, hK⟩ := read_l0 b n r (x4 ++ [p]) (by omega) (by rw [List.length_append, List.length_singleton]; omega) (by
        intro p' hp'
        rcases List.mem_append.1 hp' with h | h
        · exact hv p' h
        · rw [List.mem_singleton.1 h]; exact ok) (by rw [ex, List.length_append]; omega)
      refine ⟨K + 12, fun k hk => ?_⟩
      obtain ⟨k, rfl⟩ : ∃ q, k = q + 1 := ⟨k - 1, by omega⟩
      obtain ⟨q, hq, hm⟩ := part_f c l (by omega) k (by omega)
      rw [hp] at hm
      simp only at hm
      subst hm
      simp only [tuple_Read.l0, ptA]
      rw [if_neg (by rw [tx_tl]; simp), if_neg (by simp), hq, hp]
      simp only [Option.bind_some]
      rw [if_pos trivial, if_pos (by omega)]
      rw [show (⟨p.f0, p.f1, p.f2⟩ : S52) = p from rfl, hK k (by omega)]
      cases ptA n r with
      | none => rfl
      | some ps => simp [List.append_assoc]
/-- THE PROGRAM'S Read. -/
theorem read_f (b : List UInt8) (h : b.length ≤ 4398046511000) : ∃ K, ∀ k, K ≤ k → tuple_Read.f k (tx b) = some (match psA (b.length + 1) b with | none => ([], 4) | some ps => (ps, 0)) := by
  obtain ⟨K, hK⟩ := read_l0 b (b.length + 1) b [] (by omega) (by simp; omega) (by simp) (by simp [encL]; omega)
  refine ⟨K, fun k hk => ?_⟩
  have := hK k hk
  unfold tuple_Read.f
  rw [this, canon]
  cases ptA (b.length + 1) b with
  | none => rfl
  | some ps =>
    simp only [Option.bind_some, List.nil_append]
    by_cases hc : encL ps = b
    · rw [if_pos hc, if_pos hc]
    · rw [if_neg hc, if_neg hc]
end Go.Proofs.Ytbohpjbcjnapfaa.TupM
