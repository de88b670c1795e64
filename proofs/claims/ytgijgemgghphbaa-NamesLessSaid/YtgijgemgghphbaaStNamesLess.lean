-- By a program of this session (wip/xprint.py over the kit's print).
import Derived.Test.YtgijgemgghphbaaX23
import Derived.Test.YtgijgemgghphbaaOpens
namespace Go.Proofs.Ytgijgemgghphbaa.X
open Go.RowKit Go.Proofs.YtgijgemgghphbaaW.PrintWords Go.Proofs.YtgijgemgghphbaaW.PrintLast
/-- THE ONE PURE STATEMENT of cofferlaw12_NamesLess. -/
def cofferlaw12_NamesLess.Pure : Prop := ∀ (l0 : List (S31)) (a1 : Int), (l0.length * 32 ≤ 140737488351232 ∧ ∀ q_ ∈ l0, (q_.f0.size ≤ 140737488351232) ∧ (q_.f1.size ≤ 140737488351232)) → ((Lit.int .i64 a1).wf = true) → ∃ k, cofferlaw12_NamesLess.f k l0 a1 = some true
end Go.Proofs.Ytgijgemgghphbaa.X
