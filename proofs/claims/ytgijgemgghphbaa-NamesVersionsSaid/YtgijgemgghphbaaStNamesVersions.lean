-- By a program of this session (wip/xprint.py over the kit's print).
import Derived.Test.YtgijgemgghphbaaX21
import Derived.Test.YtgijgemgghphbaaOpens
namespace Go.Proofs.Ytgijgemgghphbaa.X
open Go.RowKit Go.Proofs.YtgijgemgghphbaaW.PrintWords Go.Proofs.YtgijgemgghphbaaW.PrintLast
/-- THE ONE PURE STATEMENT of cofferlaw12_NamesVersions. -/
def cofferlaw12_NamesVersions.Pure : Prop := ∀ (x0 : S34), ((x0.f0.size ≤ 140737488351232) ∧ ((Lit.int .i64 x0.f1).wf = true) ∧ (True) ∧ (x0.f3.size ≤ 140737488351232) ∧ (x0.f4.length * 32 ≤ 140737488351232 ∧ ∀ q_ ∈ x0.f4, (q_.f0.size ≤ 140737488351232) ∧ (q_.f1.size ≤ 140737488351232))) → ∃ k, cofferlaw12_NamesVersions.f k x0.f0 x0.f1 x0.f2 x0.f3 x0.f4 = some true
end Go.Proofs.Ytgijgemgghphbaa.X
