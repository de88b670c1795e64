-- By a program of this session (wip/xprint.py over the kit's print).
import Derived.Test.YtdhkcklgnnilfaaX33
import Derived.Test.YtdhkcklgnnilfaaOpens
namespace Go.Proofs.Ytdhkcklgnnilfaa.X
open Go.RowKit Go.Proofs.YtdhkcklgnnilfaaW.PrintWords Go.Proofs.YtdhkcklgnnilfaaW.PrintLast
/-- THE ONE PURE STATEMENT of cofferlaw13_VersionWrites. -/
def cofferlaw13_VersionWrites.Pure : Prop := ∀ (x0 : S24), ((x0.f0.size ≤ 140737488351232) ∧ ((Lit.int .i64 x0.f1).wf = true) ∧ (True) ∧ (x0.f3.size ≤ 140737488351232) ∧ (x0.f4.length * 32 ≤ 140737488351232 ∧ ∀ q_ ∈ x0.f4, (q_.f0.size ≤ 140737488351232) ∧ (q_.f1.size ≤ 140737488351232))) → ∃ k, cofferlaw13_VersionWrites.f k x0.f0 x0.f1 x0.f2 x0.f3 x0.f4 = some true
end Go.Proofs.Ytdhkcklgnnilfaa.X
