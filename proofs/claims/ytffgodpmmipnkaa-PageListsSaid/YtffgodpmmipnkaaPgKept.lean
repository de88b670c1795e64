/- Chapter 10: what is lent is the list; it is kept, the mark behind it, too. -/
import Derived.Test.YtffgodpmmipnkaaKeptS
import Derived.Test.YtffgodpmmipnkaaPg
namespace Go.Proofs.Ytffgodpmmipnkaa.Pg
set_option linter.unusedVariables false
set_option linter.unusedSimpArgs false
open Go.RowKit Go.Proofs.Ytffgodpmmipnkaa Go.Proofs.Ytffgodpmmipnkaa.X Go.Proofs.YtffgodpmmipnkaaW.PrintWords Go.Proofs.YtffgodpmmipnkaaW.PrintLast Go.Proofs.YtffgodpmmipnkaaW.PrintMore

theorem lent_eq (l : List S37) (hl : l.length < 4398046511104) : cofferlaw10_lent.f l = some l := by
  unfold cofferlaw10_lent.f
  simp only [Option.bind_some, List.nil_append, List.length_nil, Nat.zero_add]
  rw [if_pos hl, if_pos hl, if_pos (by omega), if_pos (by simp; omega), Int.toNat_natCast, List.take_left]
theorem kept_self (l : List S37) (hl : l.length < 4398046511104) (k : Nat) (hk : l.length < k) : cofferlaw10_keptS.f k l l = some true := by
  have ht : (l ++ [MARK]).take (l.length + 1) = l ++ [MARK] := List.take_of_length_le (by simp)
  have hr : rd_T37 (l ++ [MARK]) (l.length : Int) = MARK := by
    rw [rd_at _ _ (by simp)]; simp
  unfold cofferlaw10_keptS.f
  rw [same_self l (by omega) k hk, Option.bind_some, if_pos rfl, wn _ (by omega), if_pos (by omega), if_pos (by simp), Int.toNat_natCast, ht, Option.bind_some, if_pos (by omega), if_pos (by simp; omega), hr]
  unfold MARK
  simp only []
  rw [toList_data, toList_data]
  rfl
theorem tot_le (B : Int) (hB : 0 ≤ B) : ∀ l : List S37, (∀ e ∈ l, sz e ≤ B) → tot l ≤ B * (l.length : Int)
  | [], _ => by simp [tot]
  | e :: l, h => by
    have h1 := tot_le B hB l (fun x hx => h x (List.mem_cons_of_mem _ hx))
    have h2 := h e List.mem_cons_self
    simp only [tot, List.length_cons, Int.natCast_add, Int.natCast_one]
    rw [Int.mul_add, Int.mul_one]; omega
end Go.Proofs.Ytffgodpmmipnkaa.Pg
