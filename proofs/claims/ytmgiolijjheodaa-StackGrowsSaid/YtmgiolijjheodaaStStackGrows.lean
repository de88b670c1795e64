-- By a program of this session (wip/xprint.py over the kit's print).
import Derived.Test.YtmgiolijjheodaaX45
import Derived.Test.YtmgiolijjheodaaOpens
namespace Go.Proofs.Ytmgiolijjheodaa.X
open Go.RowKit Go.Proofs.YtmgiolijjheodaaW.PrintWords Go.Proofs.YtmgiolijjheodaaW.PrintLast
/-- THE ONE PURE STATEMENT of cofferlaw14_StackGrows. -/
def cofferlaw14_StackGrows.Pure : Prop := ∀ (l0 : List (S25)) (l1 : List Int), (l0.length * 72 ≤ 140737488351232 ∧ ∀ q_ ∈ l0, (q_.f0.size ≤ 140737488351232) ∧ ((Lit.int .i64 q_.f1).wf = true) ∧ (True) ∧ (q_.f3.size ≤ 140737488351232) ∧ (q_.f4.length * 32 ≤ 140737488351232 ∧ ∀ qq_ ∈ q_.f4, (qq_.f0.size ≤ 140737488351232) ∧ (qq_.f1.size ≤ 140737488351232))) → (l1.length * 8 ≤ 140737488351232 ∧ ∀ q_ ∈ l1, (Lit.int .i64 q_).wf = true) → ∃ k, cofferlaw14_StackGrows.f k l0 l1 = some true
end Go.Proofs.Ytmgiolijjheodaa.X
