import Derived.Test.YtbohpjbcjnapfaaStTupleSizesUpto
import Derived.Test.YtbohpjbcjnapfaaTupZ
namespace Go.Proofs.Ytbohpjbcjnapfaa.Pure
set_option linter.unusedVariables false
set_option linter.unusedSimpArgs false
open Go.RowKit Go.Proofs.Ytbohpjbcjnapfaa.X Go.Proofs.YtbohpjbcjnapfaaW.PrintWords Go.Proofs.YtbohpjbcjnapfaaW.PrintLast

theorem TupleSizesUpto : cofferlaw05_TupleSizes.PureU := by
  intro a0 a1 h0 h1
  have hi : TupM.i64 a1 := by
    simp [Lit.wf, Go.IntKind.min, Go.IntKind.max, Go.IntKind.bits, Go.IntKind.signed] at h1
    unfold TupM.i64; omega
  exact TupM.sizes_f a0.data.toList h0 a1 hi

end Go.Proofs.Ytbohpjbcjnapfaa.Pure
