-- By a program of this session (wip/xprint.py over the kit's print).
import Derived.Test.YtgdcklkdigdegaaX9
import Derived.Test.YtgdcklkdigdegaaOpens
namespace Go.Proofs.Ytgdcklkdigdegaa.X
open Go.RowKit Go.Proofs.YtgdcklkdigdegaaW.PrintWords Go.Proofs.YtgdcklkdigdegaaW.PrintLast
/-- THE ONE PURE STATEMENT of cofferlaw01_SumTells. -/
def cofferlaw01_SumTells.Pure : Prop := ∀ (a0 : ByteArray) (a1 : Int) (a2 : Int), (a0.size ≤ 140737488351232) → ((Lit.int .i64 a1).wf = true) → ((Lit.int .u64 a2).wf = true) → cofferlaw01_SumTells.f a0 a1 a2 = some true
end Go.Proofs.Ytgdcklkdigdegaa.X
