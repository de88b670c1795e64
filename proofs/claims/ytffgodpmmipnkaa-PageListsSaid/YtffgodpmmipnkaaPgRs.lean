/- Chapter 10: the document's Split is the program's. -/
import Derived.Test.YtffgodpmmipnkaaX0
import Derived.Test.YtffgodpmmipnkaaX48
import Derived.Test.YtffgodpmmipnkaaPg
namespace Go.Proofs.Ytffgodpmmipnkaa.Pg
set_option linter.unusedVariables false
set_option linter.unusedSimpArgs false
open Go.RowKit Go.Proofs.Ytffgodpmmipnkaa Go.Proofs.Ytffgodpmmipnkaa.X Go.Proofs.YtffgodpmmipnkaaW.PrintWords Go.Proofs.YtffgodpmmipnkaaW.PrintLast Go.Proofs.YtffgodpmmipnkaaW.PrintMore

theorem rsplit_l0 (l : List S37) (hl : l.length < 4398046511104) (ht : tot l < 4611686018427387904) (d : Nat) : ∀ (k i b : Nat) (m : Int), 1 ≤ i → i + d = l.length → d + l.length + 1 < k → b ≠ 0 → b < i → 0 ≤ m →
    cofferref10_Split.l0 k l (b : Int) m (i : Int) = some (l.take (scan l d i b m), l.drop (scan l d i b m)) := by
  induction d with
  | zero =>
    intro k i b m hi h hk hb hb0 hm
    obtain ⟨k, rfl⟩ : ∃ q, k = q + 1 := ⟨k - 1, by omega⟩
    simp only [cofferref10_Split.l0, scan, Option.bind_some, List.length_nil, Nat.zero_add, List.nil_append]
    rw [if_neg (by omega), if_pos (by omega), if_pos (by omega), Int.toNat_natCast, if_pos (by rw [List.length_take]; omega), if_pos (by rw [List.length_drop]; omega)]
  | succ d ih =>
    intro k i b m hi h hk hb hb0 hm
    obtain ⟨k, rfl⟩ : ∃ q, k = q + 1 := ⟨k - 1, by omega⟩
    have h1 := tot_take_le l i
    have h2 := tot_drop_le l i
    have h3 := tot0 (l.take i)
    have h4 := tot0 (l.drop i)
    simp only [cofferref10_Split.l0, scan, Int.toNat_natCast]
    rw [if_pos (by omega), if_pos (by omega), if_pos (by omega), rsize_eq _ (by rw [List.length_take]; omega) k (by rw [List.length_take]; omega), Option.bind_some, rsize_eq _ (by rw [List.length_drop]; omega) k (by rw [List.length_drop]; omega), Option.bind_some, wrap_mid h3 (by omega), wrap_mid h4 (by omega), wn i (by omega), show mx (tot (l.take i)) (tot (l.drop i)) = gr l i from rfl, if_neg (by omega)]
    by_cases hg : gr l i < m
    · rw [if_pos hg, if_pos (.inr hg)]
      exact ih k (i + 1) i (gr l i) (by omega) (by omega) (by omega) (by omega) (by omega) (gr_pos l i)
    · rw [if_neg hg, if_neg (by omega)]
      exact ih k (i + 1) b m (by omega) (by omega) (by omega) (by omega) (by omega) hm
theorem rsplit_eq (l : List S37) (hl : l.length < 4398046511104) (ht : tot l < 4611686018427387904) (k : Nat) (hk : 2 * l.length + 2 < k) : cofferref10_Split.f k l = some (splitL l) := by
  unfold cofferref10_Split.f splitL
  obtain ⟨k, rfl⟩ : ∃ q, k = q + 1 := ⟨k - 1, by omega⟩
  by_cases h : l.length < 2
  · rw [if_pos h]
    simp only [cofferref10_Split.l0, Option.bind_some, List.length_nil, Nat.zero_add, List.nil_append]
    rw [if_neg (by omega), if_pos (by omega), if_pos (by omega), Int.toNat_natCast, if_pos (by rw [List.length_take]; omega), if_pos (by rw [List.length_drop]; omega)]
    rw [List.take_length, List.drop_length]
  · rw [if_neg h]
    have h1 := tot_take_le l 1
    have h2 := tot_drop_le l 1
    have h3 := tot0 (l.take 1)
    have h4 := tot0 (l.drop 1)
    have hr := rsplit_l0 l hl ht (l.length - 2) k 2 1 (gr l 1) (by omega) (by omega) (by omega) (by omega) (by omega) (gr_pos l 1)
    have hc : cutAt l = scan l (l.length - 2) 2 1 (gr l 1) := by
      unfold cutAt
      rw [show l.length - 1 = (l.length - 2) + 1 by omega]
      show (if 0 = 0 ∨ gr l 1 < 0 then scan l (l.length - 2) (1 + 1) 1 (gr l 1) else scan l (l.length - 2) (1 + 1) 0 0) = _
      rw [if_pos (Or.inl rfl)]
    simp only [cofferref10_Split.l0]
    rw [if_pos (by omega), if_pos (by omega), if_pos (by omega), show (1 : Int).toNat = 1 from rfl, rsize_eq _ (by rw [List.length_take]; omega) k (by rw [List.length_take]; omega), Option.bind_some, rsize_eq _ (by rw [List.length_drop]; omega) k (by rw [List.length_drop]; omega), Option.bind_some, wrap_mid h3 (by omega), wrap_mid h4 (by omega), show mx (tot (l.take 1)) (tot (l.drop 1)) = gr l 1 from rfl, if_pos (by omega), show wrap64 (1 + 1) = ((2 : Nat) : Int) from by unfold wrap64; omega, hc]
    exact hr

end Go.Proofs.Ytffgodpmmipnkaa.Pg
