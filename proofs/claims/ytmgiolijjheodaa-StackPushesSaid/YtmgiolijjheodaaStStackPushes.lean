-- By a program of this session (wip/xprint.py over the kit's print).
import Derived.Test.YtmgiolijjheodaaX50
import Derived.Test.YtmgiolijjheodaaOpens
namespace Go.Proofs.Ytmgiolijjheodaa.X
open Go.RowKit Go.Proofs.YtmgiolijjheodaaW.PrintWords Go.Proofs.YtmgiolijjheodaaW.PrintLast
/-- THE ONE PURE STATEMENT of cofferlaw14_StackPushes. -/
def cofferlaw14_StackPushes.Pure : Prop := ∀ (l0 : List (S25)) (x1 : S25), (l0.length * 72 ≤ 140737488351232 ∧ ∀ q_ ∈ l0, (q_.f0.size ≤ 140737488351232) ∧ ((Lit.int .i64 q_.f1).wf = true) ∧ (True) ∧ (q_.f3.size ≤ 140737488351232) ∧ (q_.f4.length * 32 ≤ 140737488351232 ∧ ∀ qq_ ∈ q_.f4, (qq_.f0.size ≤ 140737488351232) ∧ (qq_.f1.size ≤ 140737488351232))) → ((x1.f0.size ≤ 140737488351232) ∧ ((Lit.int .i64 x1.f1).wf = true) ∧ (True) ∧ (x1.f3.size ≤ 140737488351232) ∧ (x1.f4.length * 32 ≤ 140737488351232 ∧ ∀ q_ ∈ x1.f4, (q_.f0.size ≤ 140737488351232) ∧ (q_.f1.size ≤ 140737488351232))) → ∃ k, cofferlaw14_StackPushes.f k l0 x1.f0 x1.f1 x1.f2 x1.f3 x1.f4 = some true
end Go.Proofs.Ytmgiolijjheodaa.X
