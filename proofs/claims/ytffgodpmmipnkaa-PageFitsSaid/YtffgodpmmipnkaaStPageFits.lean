-- By a program of this session (wip/xprint.py over the kit's print).
import Derived.Test.YtffgodpmmipnkaaX56
import Derived.Test.YtffgodpmmipnkaaOpens
namespace Go.Proofs.Ytffgodpmmipnkaa.X
open Go.RowKit Go.Proofs.YtffgodpmmipnkaaW.PrintWords Go.Proofs.YtffgodpmmipnkaaW.PrintLast
/-- THE ONE PURE STATEMENT of cofferlaw10_PageFits. -/
def cofferlaw10_PageFits.Pure : Prop := ∀ (l0 : List (S37)) (x1 : S37) (a2 : Int), (l0.length * 32 ≤ 140737488351232 ∧ ∀ q_ ∈ l0, (q_.f0.size ≤ 140737488351232) ∧ (q_.f1.size ≤ 140737488351232)) → ((x1.f0.size ≤ 140737488351232) ∧ (x1.f1.size ≤ 140737488351232)) → ((Lit.int .i64 a2).wf = true) → ∃ k, cofferlaw10_PageFits.f k l0 x1.f0 x1.f1 a2 = some true
end Go.Proofs.Ytffgodpmmipnkaa.X
