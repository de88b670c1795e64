-- By a program of this session (wip/xprint.py over the kit's print).
import Derived.Test.YtffgodpmmipnkaaX43
import Derived.Test.YtffgodpmmipnkaaOpens
namespace Go.Proofs.Ytffgodpmmipnkaa.X
open Go.RowKit Go.Proofs.YtffgodpmmipnkaaW.PrintWords Go.Proofs.YtffgodpmmipnkaaW.PrintLast
/-- THE ONE PURE STATEMENT of cofferlaw10_PageBytes. -/
def cofferlaw10_PageBytes.Pure : Prop := ∀ (a0 : Int) (a1 : Int) (l2 : List (S37)) (a3 : ByteArray), ((Lit.int .i64 a0).wf = true) → ((Lit.int .i64 a1).wf = true) → (l2.length * 32 ≤ 140737488351232 ∧ ∀ q_ ∈ l2, (q_.f0.size ≤ 140737488351232) ∧ (q_.f1.size ≤ 140737488351232)) → (a3.size ≤ 140737488351232) → ∃ k, cofferlaw10_PageBytes.f k a0 a1 l2 a3 = some true
end Go.Proofs.Ytffgodpmmipnkaa.X
