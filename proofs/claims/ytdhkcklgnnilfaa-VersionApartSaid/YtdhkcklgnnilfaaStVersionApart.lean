-- By a program of this session (wip/xprint.py over the kit's print).
import Derived.Test.YtdhkcklgnnilfaaX31
import Derived.Test.YtdhkcklgnnilfaaOpens
namespace Go.Proofs.Ytdhkcklgnnilfaa.X
open Go.RowKit Go.Proofs.YtdhkcklgnnilfaaW.PrintWords Go.Proofs.YtdhkcklgnnilfaaW.PrintLast
/-- THE ONE PURE STATEMENT of cofferlaw13_VersionApart. -/
def cofferlaw13_VersionApart.Pure : Prop := ∀ (x0 : S24) (x1 : S24), ((x0.f0.size ≤ 140737488351232) ∧ ((Lit.int .i64 x0.f1).wf = true) ∧ (True) ∧ (x0.f3.size ≤ 140737488351232) ∧ (x0.f4.length * 32 ≤ 140737488351232 ∧ ∀ q_ ∈ x0.f4, (q_.f0.size ≤ 140737488351232) ∧ (q_.f1.size ≤ 140737488351232))) → ((x1.f0.size ≤ 140737488351232) ∧ ((Lit.int .i64 x1.f1).wf = true) ∧ (True) ∧ (x1.f3.size ≤ 140737488351232) ∧ (x1.f4.length * 32 ≤ 140737488351232 ∧ ∀ q_ ∈ x1.f4, (q_.f0.size ≤ 140737488351232) ∧ (q_.f1.size ≤ 140737488351232))) → ∃ k, cofferlaw13_VersionApart.f k x0.f0 x0.f1 x0.f2 x0.f3 x0.f4 x1.f0 x1.f1 x1.f2 x1.f3 x1.f4 = some true
end Go.Proofs.Ytdhkcklgnnilfaa.X
