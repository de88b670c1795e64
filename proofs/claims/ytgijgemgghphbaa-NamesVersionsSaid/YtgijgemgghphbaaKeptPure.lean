/- Kept of a list and itself; what is lent is the list. -/
import Derived.Test.YtgijgemgghphbaaLendS
import Derived.Test.YtgijgemgghphbaaKeptS
import Derived.Test.YtgijgemgghphbaaNamesLink
namespace Go.Proofs.Ytgijgemgghphbaa.Link
set_option linter.unusedVariables false
set_option linter.unusedSimpArgs false
open Go.RowKit Go.Proofs.Ytgijgemgghphbaa.X Go.Proofs.YtgijgemgghphbaaW.PrintWords Go.Proofs.YtgijgemgghphbaaW.PrintLast
theorem lend_eq (l : List S31) (hl : l.length < 4398046511104) : cofferlaw12_lend.f l = some l := by
  unfold cofferlaw12_lend.f
  rw [if_pos (by simpa using hl)]
  simp only [Option.bind_some, List.nil_append]
  rw [if_pos (by simpa using hl), if_pos (by omega), if_pos (by simp; omega), Int.toNat_natCast, List.take_left]
theorem kept_l0 (l : List S31) (hl : l.length < 4398046511104) (j : Nat) : ∀ (k i : Nat), i + j = l.length → j < k → cofferlaw12_keptS.l0 k l l (i : Int) = some true := by
  induction j with
  | zero =>
    intro k i h hk
    obtain ⟨k, rfl⟩ : ∃ q, k = q + 1 := ⟨k - 1, by omega⟩
    simp only [cofferlaw12_keptS.l0]
    have hw : wrap64 ((l.length : Int) + 1) = ((l.length + 1 : Nat) : Int) := by unfold wrap64; omega
    rw [if_neg (by omega), if_pos trivial, hw, if_pos (by omega)]
  | succ j ih =>
    intro k i h hk
    obtain ⟨k, rfl⟩ : ∃ q, k = q + 1 := ⟨k - 1, by omega⟩
    have hw : wrap64 ((i : Int) + 1) = ((i + 1 : Nat) : Int) := by unfold wrap64; omega
    simp only [cofferlaw12_keptS.l0]
    rw [if_pos (by omega), if_pos (by omega), if_pos (by omega), if_neg (by simp), hw]
    exact ih k (i + 1) (by omega) (by omega)
theorem kept_self (l : List S31) (hl : l.length < 4398046511104) (k : Nat) (hk : l.length < k) : cofferlaw12_keptS.f k l l = some true := kept_l0 l hl l.length k 0 (by omega) hk
end Go.Proofs.Ytgijgemgghphbaa.Link
