-- By a program of this session (wip/xprint.py over the kit's print).
import Derived.Test.YtbohpjbcjnapfaaX0
import Derived.Test.YtbohpjbcjnapfaaTupW
namespace Go.Proofs.Ytbohpjbcjnapfaa.X
open Go.RowKit Go.Proofs.YtbohpjbcjnapfaaW.PrintWords Go.Proofs.YtbohpjbcjnapfaaW.PrintLast Go.Proofs.YtbohpjbcjnapfaaW.PrintMore
attribute [local go_sem] max2_int min2_int max_two min_two max_three min_three max_four min_four Go.Proofs.Ytbohpjbcjnapfaa.Z.leq_string Go.Proofs.Ytbohpjbcjnapfaa.Z.gtr_string Go.Proofs.Ytbohpjbcjnapfaa.Z.geq_string   -- for this text's walks alone
set_option linter.unusedVariables false
set_option linter.unusedSimpArgs false

/-! ### tuple_Write: function 15 -/
-- the contract: a text of its own (<Name>TupW: write_calls; fix05.py adds its import)
def tuple_Write.f (l0 : List (S52)) : Option (ByteArray × Int) := if (encL l0).length + 40 ≤ 140737488355328 then some (wrF l0) else none
theorem tuple_Write.calls (A0 : Option Addr) (c0 : Nat) (l0 : List (S52)) (r1 : ByteArray) (r2 : Int) (w : World) (hr0 : Kd.C k52 w A0 l0.length l0) (hc0 : l0.length ≤ c0) (h : tuple_Write.f l0 = some (r1, r2)) :
    Calls Try.prog 15 #[.slice A0 l0.length c0] w fun e w' => e = .returned (.tuple #[.string r1, .int .i64 r2]) ∧ Below w.heap.size w w' := by
  unfold tuple_Write.f at h
  by_cases hc : (encL l0).length + 40 ≤ 140737488355328
  · rw [if_pos hc] at h
    have := write_calls A0 c0 l0 w hr0 hc0 hc
    rw [Option.some.inj h] at this
    exact this
  · rw [if_neg hc] at h
    cases h

end Go.Proofs.Ytbohpjbcjnapfaa.X
