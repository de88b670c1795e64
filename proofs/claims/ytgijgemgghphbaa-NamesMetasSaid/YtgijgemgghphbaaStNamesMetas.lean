-- By a program of this session (wip/xprint.py over the kit's print).
import Derived.Test.YtgijgemgghphbaaX18
import Derived.Test.YtgijgemgghphbaaOpens
namespace Go.Proofs.Ytgijgemgghphbaa.X
open Go.RowKit Go.Proofs.YtgijgemgghphbaaW.PrintWords Go.Proofs.YtgijgemgghphbaaW.PrintLast
/-- THE ONE PURE STATEMENT of cofferlaw12_NamesMetas. -/
def cofferlaw12_NamesMetas.Pure : Prop := ∀ (l0 : List (S31)), (l0.length * 32 ≤ 140737488351232 ∧ ∀ q_ ∈ l0, (q_.f0.size ≤ 140737488351232) ∧ (q_.f1.size ≤ 140737488351232)) → ∃ k, cofferlaw12_NamesMetas.f k l0 = some true
end Go.Proofs.Ytgijgemgghphbaa.X
