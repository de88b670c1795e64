-- By a program of this session (wip/xprint.py over the kit's print).
import Derived.Test.YtmgiolijjheodaaX32
import Derived.Test.YtmgiolijjheodaaOpens
namespace Go.Proofs.Ytmgiolijjheodaa.X
open Go.RowKit Go.Proofs.YtmgiolijjheodaaW.PrintWords Go.Proofs.YtmgiolijjheodaaW.PrintLast
/-- THE ONE PURE STATEMENT of cofferlaw14_StackParts. -/
def cofferlaw14_StackParts.Pure : Prop := ∀ (l0 : List (S25)) (a1 : ByteArray) (a2 : Int) (a3 : Int) (a4 : Int), (l0.length * 72 ≤ 140737488351232 ∧ ∀ q_ ∈ l0, (q_.f0.size ≤ 140737488351232) ∧ ((Lit.int .i64 q_.f1).wf = true) ∧ (True) ∧ (q_.f3.size ≤ 140737488351232) ∧ (q_.f4.length * 32 ≤ 140737488351232 ∧ ∀ qq_ ∈ q_.f4, (qq_.f0.size ≤ 140737488351232) ∧ (qq_.f1.size ≤ 140737488351232))) → (a1.size ≤ 140737488351232) → ((Lit.int .i64 a2).wf = true) → ((Lit.int .i64 a3).wf = true) → ((Lit.int .i64 a4).wf = true) → ∃ k, cofferlaw14_StackParts.f k l0 a1 a2 a3 a4 = some true
end Go.Proofs.Ytmgiolijjheodaa.X
