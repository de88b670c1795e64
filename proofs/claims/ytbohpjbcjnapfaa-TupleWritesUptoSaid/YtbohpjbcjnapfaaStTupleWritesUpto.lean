-- By a program of this session (wip/xprint.py over the kit's print).
import Derived.Test.YtbohpjbcjnapfaaX71
import Derived.Test.YtbohpjbcjnapfaaOpens
namespace Go.Proofs.Ytbohpjbcjnapfaa.X
open Go.RowKit Go.Proofs.YtbohpjbcjnapfaaW.PrintWords Go.Proofs.YtbohpjbcjnapfaaW.PrintLast
/-- THE ONE PURE STATEMENT of cofferlaw05_TupleWrites, of small inputs. -/
def cofferlaw05_TupleWrites.PureU : Prop := ∀ (l0 : List (S58)) (l1 : List (S58)), (l0.length ≤ 1048576 ∧ ∀ q_ ∈ l0, ((Lit.int .i64 q_.f0).wf = true) ∧ (q_.f1.size ≤ 1048576) ∧ ((Lit.int .i64 q_.f2).wf = true)) → (l1.length ≤ 1048576 ∧ ∀ q_ ∈ l1, ((Lit.int .i64 q_.f0).wf = true) ∧ (q_.f1.size ≤ 1048576) ∧ ((Lit.int .i64 q_.f2).wf = true)) → ∃ k, cofferlaw05_TupleWrites.f k l0 l1 = some true
end Go.Proofs.Ytbohpjbcjnapfaa.X
