-- By a program of this session (wip/xprint.py over the kit's print).
import Derived.Test.YtgdcklkdigdegaaX10
import Derived.Test.YtgdcklkdigdegaaOpens
namespace Go.Proofs.Ytgdcklkdigdegaa.X
open Go.RowKit Go.Proofs.YtgdcklkdigdegaaW.PrintWords Go.Proofs.YtgdcklkdigdegaaW.PrintLast
/-- THE ONE PURE STATEMENT of cofferlaw01_SumLinear. -/
def cofferlaw01_SumLinear.Pure : Prop := ∀ (a0 : ByteArray) (a1 : ByteArray) (a2 : ByteArray), (a0.size ≤ 140737488351232) → (a1.size ≤ 140737488351232) → (a2.size ≤ 140737488351232) → ∃ k, cofferlaw01_SumLinear.f k a0 a1 a2 = some true
end Go.Proofs.Ytgdcklkdigdegaa.X
