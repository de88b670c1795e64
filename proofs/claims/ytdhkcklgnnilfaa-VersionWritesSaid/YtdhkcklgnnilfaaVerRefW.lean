/- The document's Write and Read of a version: they come to the same bytes. -/
import Derived.Test.YtdhkcklgnnilfaaVerMath
import Derived.Test.YtdhkcklgnnilfaaX16
namespace Go.Proofs.Ytdhkcklgnnilfaa.Link
set_option linter.unusedVariables false
set_option linter.unusedSimpArgs false
open Go.RowKit Go.Proofs.Ytdhkcklgnnilfaa.X Go.Proofs.YtdhkcklgnnilfaaW.PrintWords Go.Proofs.YtdhkcklgnnilfaaW.PrintLast Go.Proofs.YtdhkcklgnnilfaaW.PrintMore

theorem ref_meta_l0 (xs : List S31) (hx : xs.length ≤ 8) (M : Nat) (hM : ∀ p ∈ xs, p.f0.size ≤ M) (hM2 : M ≤ 140737488351232) (d : Nat) : ∀ (k i : Nat) (last : List UInt8), i + d = xs.length → M + d + 1 < k → (i = 0 → last = []) → (∀ h : 0 < i, ∀ h2 : i - 1 < xs.length, last = xs[i - 1].f0.toList) →
    cofferref12_Meta.l0 k xs (i : Int) = some (if metaB last (xs.drop i) = true then 0 else 62) := by
  induction d with
  | zero =>
    intro k i last h hk _ _
    obtain ⟨k, rfl⟩ : ∃ q, k = q + 1 := ⟨k - 1, by omega⟩
    simp only [cofferref12_Meta.l0]
    rw [if_neg (by omega), List.drop_of_length_le (by omega)]; rfl
  | succ d ih =>
    intro k i last h hk hl0 hl1
    obtain ⟨k, rfl⟩ : ∃ q, k = q + 1 := ⟨k - 1, by omega⟩
    have hlt : i < xs.length := by omega
    have hw : wrap64 ((i : Int) + 1) = ((i + 1 : Nat) : Int) := by unfold wrap64; omega
    have hs := hM xs[i] (List.getElem_mem hlt)
    have ih' := ih k (i + 1) xs[i].f0.toList (by omega) (by omega) (by omega) (by intro _ _; rfl)
    simp only [cofferref12_Meta.l0]
    rw [if_pos (by omega), if_pos (by omega), rd_at xs i hlt, ref_small _ _ (by omega) k (by omega), hw, ih', List.drop_eq_getElem_cons hlt]
    simp only [Option.bind_some]
    have hm : metaB last (xs[i] :: xs.drop (i + 1)) = ((smallB xs[i].f0 16 && decide ((xs[i].f1.size : Int) ≤ 64)) && Op.bytesLess last xs[i].f0.toList && metaB xs[i].f0.toList (xs.drop (i + 1))) := rfl
    by_cases h1 : smallB xs[i].f0 16 = true
    · rw [if_pos h1]
      by_cases h2 : (xs[i].f1.size : Int) > 64
      · have hz : decide ((xs[i].f1.size : Int) ≤ 64) = false := by simp; omega
        rw [hz, Bool.and_false, Bool.false_and, Bool.false_and] at hm
        rw [if_pos h2, hm]; rfl
      · have hz : decide ((xs[i].f1.size : Int) ≤ 64) = true := by simp; omega
        rw [h1, hz, Bool.true_and, Bool.true_and] at hm
        rw [if_neg h2]
        by_cases h0 : i = 0
        · have hl : Op.bytesLess last xs[i].f0.toList = true := by
            rw [hl0 h0]
            exact pair_nonempty xs[i] (by unfold pairB; rw [h1, hz]; rfl)
          rw [hl, Bool.true_and] at hm
          rw [if_neg (by omega), hm]
        · have hw3 : wrap64 ((i : Int) - 1) = ((i - 1 : Nat) : Int) := by unfold wrap64; omega
          rw [if_pos (by omega), hw3, if_pos (by omega), if_pos (by omega), rd_at xs (i - 1) (by omega), ← hl1 (by omega) (by omega)]
          by_cases h3 : Op.bytesLess last xs[i].f0.toList = true
          · rw [h3, Bool.true_and] at hm
            rw [if_pos h3, hm]
          · have h3' : Op.bytesLess last xs[i].f0.toList = false := by simpa using h3
            rw [h3', Bool.false_and] at hm
            rw [if_neg h3, hm]; rfl
    · have h1' : smallB xs[i].f0 16 = false := by simpa using h1
      rw [h1', Bool.false_and, Bool.false_and, Bool.false_and] at hm
      rw [if_neg h1, hm]; rfl
/-- The document's Meta tells the same. -/
theorem ref_meta (l : List S31) (M : Nat) (hM : ∀ p ∈ l, p.f0.size ≤ M) (hM2 : M ≤ 140737488351232) (k : Nat) (hk : M + 20 < k) : cofferref12_Meta.f k l = some (if metaOk l = true then 0 else 62) := by
  unfold cofferref12_Meta.f metaOk
  by_cases h : (l.length : Int) > 8
  · have : decide (l.length ≤ 8) = false := by simp; omega
    rw [if_pos h, this]; simp
  · have : decide (l.length ≤ 8) = true := by simp; omega
    rw [if_neg h, this]
    have := ref_meta_l0 l (by omega) M hM hM2 l.length k 0 [] (by omega) (by omega) (fun _ => rfl) (fun h => absurd h (by omega))
    rw [List.drop_zero] at this
    simp only [Bool.true_and]
    exact this
theorem ref_key (a : ByteArray) : cofferref12_Key.f a = some (if a.size = 0 ∨ 32 < a.size then 61 else 0) := by
  unfold cofferref12_Key.f
  by_cases h : a.size = 0
  · rw [if_pos (by omega), if_pos (.inl h)]
  · rw [if_neg (by omega)]
    by_cases h2 : 32 < a.size
    · rw [if_pos (by omega), if_pos (.inr h2)]
    · rw [if_neg (by omega), if_neg (by omega)]
theorem ref_data (a : ByteArray) : cofferref12_Data.f a = some (if 1024 < a.size then 63 else 0) := data_err a
/-- Right is the error of a version. -/
theorem ref_right (k : Nat) (a : ByteArray) (q : Int) (m : Bool) (d : ByteArray) (l : List S31) (M : Nat) (hM : ∀ p ∈ l, p.f0.size ≤ M) (hM2 : M ≤ 140737488351232) (hk : M + 21 < k) : cofferref13_Right.f k a q m d l = some (errV a q m d l) := by
  obtain ⟨k, rfl⟩ : ∃ q, k = q + 1 := ⟨k - 1, by omega⟩
  unfold cofferref13_Right.f errV
  by_cases hq : q < 1 ∨ 1099511627776 < q
  · rw [if_pos hq]
    rcases hq with h | h
    · rw [if_pos h]; simp [cofferref13_Right.j0]
    · rw [if_neg (by omega), show decide (q > 1099511627776) = true by simp; omega]; simp [cofferref13_Right.j0]
  · rw [if_neg hq, if_neg (by omega), show decide (q > 1099511627776) = false by simp; omega]
    simp only [cofferref13_Right.j0]
    rw [if_neg (by decide), ref_key]
    simp only [Option.bind_some]
    by_cases h1 : a.size = 0 ∨ 32 < a.size
    · rw [if_pos h1, if_pos h1, if_neg (by decide)]
    · rw [if_neg h1, if_neg h1, if_pos rfl]
      cases m
      · rw [if_neg (by decide), ref_data]
        simp only [Option.bind_some]
        by_cases h2 : 1024 < d.size
        · rw [if_pos h2, if_neg (by decide), if_pos (.inl h2)]
        · rw [if_neg h2, if_pos rfl, if_neg (by simp [h2]), ref_meta l M hM hM2 k (by omega)]
          simp only [Option.bind_some]
          by_cases h3 : metaOk l = true
          · simp [h3]
          · simp [h3]
      · rw [if_pos rfl]
        by_cases h4 : d.size = 0
        · have n3 : ¬ (1024 < d.size ∨ true = true ∧ d.size ≠ 0) := by rintro (h | ⟨_, h⟩) <;> omega
          rw [if_pos ((nil_iff d).2 h4), if_neg n3]
          cases l with
          | nil => simp [metaOk, metaB]
          | cons p l =>
            have n4 : (((p :: l).length : Int)) > 0 := by rw [List.length_cons]; omega
            rw [if_pos n4, if_pos (.inr ⟨rfl, by simp⟩)]
        · rw [if_neg (fun e => h4 ((nil_iff d).1 e)), if_pos (.inr ⟨rfl, h4⟩)]
theorem short_eq (a : ByteArray) (h : a.size ≤ 9223372036854775000) : cofferref13_short.f a = some (strOfNums [(a.size : Int) % 256] ++ a) := by
  unfold cofferref13_short.f
  simp only [Option.bind_some, son_size, List.length_cons, List.length_nil]
  rw [if_pos (by omega)]
theorem ref_write_l1 (a : ByteArray) (q : Int) (m : Bool) (d : ByteArray) (xs : List S31) (hx : xs.length ≤ 8) (hp : ∀ p ∈ xs, p.f0.size ≤ 16 ∧ p.f1.size ≤ 64) (j : Nat) : ∀ (k i : Nat) (b : ByteArray), i + j = xs.length → j < k → b.size + 82 * j ≤ 100000 →
    cofferref13_Write.l1 k b (i : Int) a q m d xs = some (b ++ strOfNums ((xs.drop i).flatMap encP), 0) := by
  induction j with
  | zero =>
    intro k i b h hk hb
    obtain ⟨k, rfl⟩ : ∃ q, k = q + 1 := ⟨k - 1, by omega⟩
    simp only [cofferref13_Write.l1]
    rw [if_neg (by omega), List.drop_of_length_le (by omega)]
    have : strOfNums (List.flatMap encP []) = (⟨#[]⟩ : ByteArray) := rfl
    rw [this, show (⟨#[]⟩ : ByteArray) = ByteArray.empty from rfl, ByteArray.append_empty]
  | succ j ih =>
    intro k i b h hk hb
    obtain ⟨k, rfl⟩ : ∃ q, k = q + 1 := ⟨k - 1, by omega⟩
    have hlt : i < xs.length := by omega
    have hw : wrap64 ((i : Int) + 1) = ((i + 1 : Nat) : Int) := by unfold wrap64; omega
    have hq := hp xs[i] (List.getElem_mem hlt)
    simp only [cofferref13_Write.l1]
    rw [if_pos (by omega), if_pos (by omega), rd_at xs i hlt, short_eq _ (by omega)]
    simp only [Option.bind_some, ByteArray.size_append, son_size, List.length_cons, List.length_nil]
    rw [if_pos (by omega), short_eq _ (by omega)]
    simp only [Option.bind_some, ByteArray.size_append, son_size, List.length_cons, List.length_nil]
    rw [if_pos (by omega), hw, ih k (i + 1) _ (by omega) (by omega) (by simp only [ByteArray.size_append, son_size, List.length_cons, List.length_nil]; omega), List.drop_eq_getElem_cons hlt, List.flatMap_cons, son_append]
    have e : strOfNums (encP xs[i]) = strOfNums [(xs[i].f0.size : Int) % 256] ++ xs[i].f0 ++ (strOfNums [(xs[i].f1.size : Int) % 256] ++ xs[i].f1) := by
      have h2 : encP xs[i] = [(xs[i].f0.size : Int) % 256] ++ (bytesOf xs[i].f0 ++ ([(xs[i].f1.size : Int) % 256] ++ bytesOf xs[i].f1)) := rfl
      rw [h2]
      simp only [son_append, son_bytesOf, ByteArray.append_assoc]
    rw [e]
    simp only [ByteArray.append_assoc]
theorem ref_write_l0 (a : ByteArray) (q : Int) (m : Bool) (d : ByteArray) (l : List S31) (he : errV a q m d l = 0) (n : Nat) : ∀ (k : Nat) (xs : List Int), n ≤ 8 → xs.length + n ≤ 100 → n + 20 < k →
    cofferref13_Write.l0 k xs ((n : Int) - 1) a q m d l = some (strOfNums (xs ++ (be n q ++ (((a.size : Int) % 256) :: (bytesOf a ++ if m then [] else encT d l)))), 0) := by
  induction n with
  | zero =>
    intro k xs h8 hl hk
    obtain ⟨q1, q2, a0, a1, d1, ml, mm⟩ := errV_zero he
    have hs := metaOk_sizes ml
    obtain ⟨k, rfl⟩ : ∃ q, k = q + 1 := ⟨k - 1, by omega⟩
    simp only [cofferref13_Write.l0]
    rw [if_neg (by omega), short_eq _ (by omega)]
    simp only [Option.bind_some, ByteArray.size_append, son_size, List.length_cons, List.length_nil]
    rw [if_pos (by omega)]
    have e0 : strOfNums xs ++ (strOfNums [(a.size : Int) % 256] ++ a) = strOfNums (xs ++ (((a.size : Int) % 256) :: bytesOf a)) := by
      have : xs ++ (((a.size : Int) % 256) :: bytesOf a) = xs ++ ([(a.size : Int) % 256] ++ bytesOf a) := rfl
      rw [this, son_append, son_append, son_bytesOf]
    cases m
    · rw [if_neg (by decide), if_pos (by omega), if_pos (by omega), if_pos (by omega)]
      have := ref_write_l1 a q false d l (by omega) (fun p hp => ⟨(hs.2 p hp).1, (hs.2 p hp).2.1⟩) l.length k 0 (((((strOfNums xs) ++ (strOfNums [(a.size : Int) % 256] ++ a)) ++ (strOfNums [(d.size : Int) / 256 % 256, (d.size : Int) % 256])) ++ d) ++ (strOfNums [(l.length : Int) % 256])) (by omega) (by omega) (by simp only [ByteArray.size_append, son_size, List.length_cons, List.length_nil]; omega)
      rw [List.drop_zero] at this
      refine this.trans ?_
      have e1 : be 2 (d.size : Int) = [(d.size : Int) / 256 % 256, (d.size : Int) % 256] := by simp [be]
      have e2 : xs ++ (be 0 q ++ (((a.size : Int) % 256) :: (bytesOf a ++ if false = true then [] else encT d l))) = xs ++ ([(a.size : Int) % 256] ++ (bytesOf a ++ ([(d.size : Int) / 256 % 256, (d.size : Int) % 256] ++ (bytesOf d ++ ([(l.length : Int) % 256] ++ l.flatMap encP))))) := by
        unfold encT; rw [e1]; rfl
      rw [e2]
      simp only [son_append, son_bytesOf, ByteArray.append_assoc]
    · rw [if_pos rfl, e0]
      simp [be]
  | succ n ih =>
    intro k xs h8 hl hk
    obtain ⟨k, rfl⟩ : ∃ q, k = q + 1 := ⟨k - 1, by omega⟩
    have hw : wrap64 (8 * (((n + 1 : Nat) : Int) - 1)) = ((8 * n : Nat) : Int) := by unfold wrap64; omega
    have hw2 : wrap64 (((n + 1 : Nat) : Int) - 1 - 1) = (n : Int) - 1 := by unfold wrap64; omega
    have hs : shr .i64 q ((8 * n : Nat) : Int) = q / 256 ^ n := by
      unfold shr
      have : min (((8 * n : Nat) : Int)).toNat IntKind.i64.bits = 8 * n := by
        show min _ 64 = _
        rw [Int.toNat_natCast]; omega
      rw [this, Int.pow_mul]; rfl
    simp only [cofferref13_Write.l0]
    rw [if_pos (by omega), hw, if_pos (by omega), if_pos (by omega), hs, hw2, ih k _ (by omega) (by simp; omega) (by omega)]
    simp only [be, List.append_assoc, List.cons_append, List.nil_append]
/-- The document's Write of every version. -/
theorem ref_write_eq (a : ByteArray) (q : Int) (m : Bool) (d : ByteArray) (l : List S31) (M : Nat) (hM : ∀ p ∈ l, p.f0.size ≤ M) (hM2 : M ≤ 140737488351232) (k : Nat) (hk : M + 60 < k) :
    cofferref13_Write.f k a q m d l = some (if errV a q m d l = 0 then (strOfNums (encV a q m d l), 0) else ((⟨#[]⟩ : ByteArray), errV a q m d l)) := by
  unfold cofferref13_Write.f
  rw [ref_right k a q m d l M hM hM2 (by omega)]
  simp only [Option.bind_some]
  by_cases he : errV a q m d l = 0
  · rw [if_pos he, if_pos he]
    obtain ⟨k, rfl⟩ : ∃ q, k = q + 1 := ⟨k - 1, by omega⟩
    have h (x : Int) (hx : x = if m then 1 else 0) : cofferref13_Write.j0 (k + 1) [x] a q m d l = some (strOfNums (encV a q m d l), 0) := by
      simp only [cofferref13_Write.j0]
      have := ref_write_l0 a q m d l he 8 k [x] (by omega) (by simp) (by omega)
      refine Eq.trans (b := _) (by rfl) (this.trans ?_)
      rw [hx]; rfl
    cases m
    · rw [if_neg (by decide)]; exact h 0 rfl
    · rw [if_pos rfl, if_pos (by decide)]; exact h 1 rfl
  · rw [if_neg he, if_neg he]

end Go.Proofs.Ytdhkcklgnnilfaa.Link
