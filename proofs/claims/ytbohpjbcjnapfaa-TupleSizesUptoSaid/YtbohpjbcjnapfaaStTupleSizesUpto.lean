-- By a program of this session (wip/xprint.py over the kit's print).
import Derived.Test.YtbohpjbcjnapfaaX55
import Derived.Test.YtbohpjbcjnapfaaOpens
namespace Go.Proofs.Ytbohpjbcjnapfaa.X
open Go.RowKit Go.Proofs.YtbohpjbcjnapfaaW.PrintWords Go.Proofs.YtbohpjbcjnapfaaW.PrintLast
/-- THE ONE PURE STATEMENT of cofferlaw05_TupleSizes, of small inputs. -/
def cofferlaw05_TupleSizes.PureU : Prop := ∀ (a0 : ByteArray) (a1 : Int), (a0.size ≤ 1048576) → ((Lit.int .i64 a1).wf = true) → ∃ k, cofferlaw05_TupleSizes.f k a0 a1 = some true
end Go.Proofs.Ytbohpjbcjnapfaa.X
