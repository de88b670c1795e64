-- By a program of this session (wip/xprint.py over the kit's print).
import Derived.Test.YtbohpjbcjnapfaaX58
import Derived.Test.YtbohpjbcjnapfaaOpens
namespace Go.Proofs.Ytbohpjbcjnapfaa.X
open Go.RowKit Go.Proofs.YtbohpjbcjnapfaaW.PrintWords Go.Proofs.YtbohpjbcjnapfaaW.PrintLast
/-- THE ONE PURE STATEMENT of cofferlaw05_TupleBack, of small inputs. -/
def cofferlaw05_TupleBack.PureU : Prop := ∀ (l0 : List (S58)) (a1 : Int) (a2 : ByteArray), (l0.length ≤ 1048576 ∧ ∀ q_ ∈ l0, ((Lit.int .i64 q_.f0).wf = true) ∧ (q_.f1.size ≤ 1048576) ∧ ((Lit.int .i64 q_.f2).wf = true)) → ((Lit.int .i64 a1).wf = true) → (a2.size ≤ 1048576) → ∃ k, cofferlaw05_TupleBack.f k l0 a1 a2 = some true
end Go.Proofs.Ytbohpjbcjnapfaa.X
