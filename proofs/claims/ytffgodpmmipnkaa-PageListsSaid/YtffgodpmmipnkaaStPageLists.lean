-- By a program of this session (wip/xprint.py over the kit's print).
import Derived.Test.YtffgodpmmipnkaaX70
import Derived.Test.YtffgodpmmipnkaaOpens
namespace Go.Proofs.Ytffgodpmmipnkaa.X
open Go.RowKit Go.Proofs.YtffgodpmmipnkaaW.PrintWords Go.Proofs.YtffgodpmmipnkaaW.PrintLast
/-- THE ONE PURE STATEMENT of cofferlaw10_PageLists. -/
def cofferlaw10_PageLists.Pure : Prop := ∀ (l0 : List (S37)) (a1 : ByteArray) (a2 : ByteArray), (l0.length * 32 ≤ 140737488351232 ∧ ∀ q_ ∈ l0, (q_.f0.size ≤ 140737488351232) ∧ (q_.f1.size ≤ 140737488351232)) → (a1.size ≤ 140737488351232) → (a2.size ≤ 140737488351232) → ∃ k, cofferlaw10_PageLists.f k l0 a1 a2 = some true
end Go.Proofs.Ytffgodpmmipnkaa.X
