/- Chapter 5: TupleOrder's plain part. -/
import Derived.Test.YtbohpjbcjnapfaaOrd
import Derived.Test.YtbohpjbcjnapfaaTupO
namespace Go.Proofs.Ytbohpjbcjnapfaa.Pure
set_option linter.unusedVariables false
set_option linter.unusedSimpArgs false
open Go.RowKit Go.Proofs.Ytbohpjbcjnapfaa.X Go.Proofs.Ytbohpjbcjnapfaa.TupM Go.Proofs.YtbohpjbcjnapfaaW.PrintWords Go.Proofs.YtbohpjbcjnapfaaW.PrintLast

theorem pair_ok (a b : List S52) (ha : ∀ p ∈ a, okP p) (hb : ∀ p ∈ b, okP p) (la : a.length ≤ 1048576) (lb : b.length ≤ 1048576) (k : Nat) (hk : 2 * a.length + 2 * b.length + 10 ≤ k) : pairOk k a b (tx (encL a)) (tx (encL b)) := by
  refine ⟨decide (cmpL a b = -1), decide (cmpL b a = -1), cmpL a b, less_f a b ha hb (by omega) k (by omega), less_f b a hb ha (by omega) k (by omega), ?_, ?_, compare_f a b (by omega) k (by omega), ?_⟩
  · rw [cmpL_neg a b]
    rcases cmpL_three a b with h | h | h <;> rw [h] <;> rfl
  · rw [order_c, cB_list a b ha hb]
  · rw [equal_f a b (by omega) k (by omega)]
    congr 1
    exact decide_eq_decide.2 (cmpL_eq a b ha hb).symm
def small58 (l : List S58) : Prop := l.length ≤ 1048576 ∧ ∀ q_ ∈ l, ((Lit.int .i64 q_.f0).wf = true) ∧ (q_.f1.size ≤ 1048576) ∧ ((Lit.int .i64 q_.f2).wf = true)
theorem i64_wf3 {n : Int} (h : (Lit.int .i64 n).wf = true) : i64 n := by
  simp [Lit.wf, Go.IntKind.min, Go.IntKind.max, Go.IntKind.bits, Go.IntKind.signed] at h
  unfold i64; omega
theorem TupleOrderUpto (l0 l1 l2 : List S58) (g0 : small58 l0) (g1 : small58 l1) (g2 : small58 l2) :
    ∃ (k : Nat) (L : Nat → List S52) (s : Nat → ByteArray), cofferlaw05_head.f k = some true ∧ cofferlaw05_parts.f k l0 = some (L 0) ∧ cofferlaw05_parts.f k l1 = some (L 1) ∧ cofferlaw05_parts.f k l2 = some (L 2) ∧
      (∀ n, n < 3 → tuple_Write.f (L n) = some (s n, 0)) ∧ ∀ n m, n < 3 → m < 3 → pairOk k (L n) (L m) (s n) (s m) := by
  have good : ∀ l : List S58, small58 l → (∀ p ∈ l.map mk, okP p) ∧ (l.map mk).length ≤ 1048576 ∧ (encL (l.map mk)).length ≤ 4398046511000 := by
    intro l g
    have hq : ∀ q ∈ l, i64 q.f2 ∧ q.f1.size ≤ 1048576 := fun q hq => ⟨i64_wf3 (g.2 q hq).2.2, (g.2 q hq).2.1⟩
    have h1 := encL_le l hq
    have h2 := g.1
    exact ⟨okP_map l hq, by rw [List.length_map]; exact g.1, by omega⟩
  obtain ⟨K0, hK⟩ := head_f
  obtain ⟨k, hk⟩ : ∃ k, k = K0 + 4194400 := ⟨_, rfl⟩
  obtain ⟨L, e0, e1, e2⟩ : ∃ L : Nat → List S52, L 0 = l0.map mk ∧ L 1 = l1.map mk ∧ L 2 = l2.map mk := ⟨fun n => if n = 0 then l0.map mk else if n = 1 then l1.map mk else l2.map mk, rfl, rfl, rfl⟩
  have hL : ∀ n, n < 3 → (∀ p ∈ L n, okP p) ∧ (L n).length ≤ 1048576 ∧ (encL (L n)).length ≤ 4398046511000 := by
    intro n hn
    have : n = 0 ∨ n = 1 ∨ n = 2 := by omega
    rcases this with rfl | rfl | rfl
    · rw [e0]; exact good l0 g0
    · rw [e1]; exact good l1 g1
    · rw [e2]; exact good l2 g2
  have a0 := g0.1
  have a1 := g1.1
  have a2 := g2.1
  refine ⟨k, L, fun n => tx (encL (L n)), hK k (by omega), ?_, ?_, ?_, fun n hn => write_ok (L n) (hL n hn).1 (hL n hn).2.2, fun n m hn hm => ?_⟩
  · rw [e0]; exact parts_f l0 (by omega) k (by omega)
  · rw [e1]; exact parts_f l1 (by omega) k (by omega)
  · rw [e2]; exact parts_f l2 (by omega) k (by omega)
  · have h1 := (hL n hn).2.1
    have h2 := (hL m hm).2.1
    exact pair_ok (L n) (L m) (hL n hn).1 (hL m hm).1 h1 h2 k (by omega)
end Go.Proofs.Ytbohpjbcjnapfaa.Pure
