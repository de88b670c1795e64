/- Small laws of this session for the printed walks: strings compared by <=, >, >=. -/
import Derived.WalkKit
namespace Go.Proofs.Ytgijgemgghphbaa.Z
open Go
theorem less_irrefl : ∀ a : List UInt8, Op.bytesLess a a = false
  | [] => rfl
  | x :: a => by simp [Op.bytesLess, less_irrefl a]
theorem less_or_eq : ∀ a b : List UInt8, (Op.bytesLess a b || a == b) = !(Op.bytesLess b a)
  | [], [] => rfl
  | [], y :: b => rfl
  | x :: a, [] => rfl
  | x :: a, y :: b => by
    have ih := less_or_eq a b
    simp only [Op.bytesLess]
    by_cases h1 : x < y
    · have h2 : ¬ y < x := fun h => by
        rw [UInt8.lt_iff_toNat_lt] at h1 h; omega
      have h3 : ¬ y = x := fun h => by rw [h, UInt8.lt_iff_toNat_lt] at h1; omega
      simp [h1, h2, h3]
    · by_cases h2 : x = y
      · subst h2
        have h4 : ¬ x < x := by rw [UInt8.lt_iff_toNat_lt]; omega
        have e : (x :: a == x :: b) = (a == b) := by
          rw [Bool.eq_iff_iff, beq_iff_eq, beq_iff_eq]; simp
        rw [e]
        simp only [h4, decide_false, beq_self_eq_true, Bool.true_and, Bool.false_or]
        exact ih
      · have h3 : y < x := by
          rw [UInt8.lt_iff_toNat_lt] at h1 ⊢
          have : x.toNat ≠ y.toNat := fun h => h2 (UInt8.toNat_inj.1 h)
          omega
        have e : (x :: a == y :: b) = false := by
          rw [beq_eq_false_iff_ne]; intro h; exact h2 (List.cons.inj h).1
        have e2 : (x == y) = false := by rw [beq_eq_false_iff_ne]; exact h2
        simp [h1, h3, e2]
theorem leq_string (t : TypeId) (a b : ByteArray) : binOp .leq t (.string a) (.string b) = pure (.bool !(Op.bytesLess b.toList a.toList)) := by
  simp only [binOp, Op.stringOp, ← less_or_eq]
theorem gtr_string (t : TypeId) (a b : ByteArray) : binOp .gtr t (.string a) (.string b) = pure (.bool (Op.bytesLess b.toList a.toList)) := by
  simp only [binOp, Op.stringOp, less_or_eq, Bool.not_not]
theorem geq_string (t : TypeId) (a b : ByteArray) : binOp .geq t (.string a) (.string b) = pure (.bool !(Op.bytesLess a.toList b.toList)) := by
  simp only [binOp, Op.stringOp]
theorem bne_nil (l : List UInt8) : (l != ([] : List UInt8)) = !l.isEmpty := by cases l <;> rfl
theorem beq_nil (l : List UInt8) : (l == ([] : List UInt8)) = l.isEmpty := by cases l <;> rfl
end Go.Proofs.Ytgijgemgghphbaa.Z
