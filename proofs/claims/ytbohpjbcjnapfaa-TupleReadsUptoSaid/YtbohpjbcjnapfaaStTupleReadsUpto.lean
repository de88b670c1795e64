-- By a program of this session (wip/xprint.py over the kit's print).
import Derived.Test.YtbohpjbcjnapfaaX42
import Derived.Test.YtbohpjbcjnapfaaOpens
namespace Go.Proofs.Ytbohpjbcjnapfaa.X
open Go.RowKit Go.Proofs.YtbohpjbcjnapfaaW.PrintWords Go.Proofs.YtbohpjbcjnapfaaW.PrintLast
/-- THE ONE PURE STATEMENT of cofferlaw05_TupleReads, of small inputs. -/
def cofferlaw05_TupleReads.PureU : Prop := ∀ (a0 : ByteArray), (a0.size ≤ 1048576) → ∃ k, cofferlaw05_TupleReads.f k a0 = some true
end Go.Proofs.Ytbohpjbcjnapfaa.X
