/- SumKeeps: two unlike numbers stay unlike behind On with one text, and like ones alike. No condition beside the row's own. -/
import Derived.Test.YtgdcklkdigdegaaX11
import Derived.Test.YtgdcklkdigdegaaCrcRef
namespace Go.Proofs.Ytgdcklkdigdegaa.Pure
set_option linter.unusedVariables false
set_option linter.unusedSimpArgs false
open Go.RowKit Go.Proofs.Ytgdcklkdigdegaa.X Go.Proofs.YtgdcklkdigdegaaW.PrintWords Go.Proofs.YtgdcklkdigdegaaW.PrintLast
open Go.Proofs.Ytgdcklkdigdegaa Go.Proofs.Ytgdcklkdigdegaa.Link

theorem SumKeeps : cofferlaw01_SumKeeps.Pure := by
  intro a0 a1 a2 h0 h1 h2
  obtain ⟨x, rfl⟩ := wf_enc h0
  obtain ⟨y, rfl⟩ := wf_enc h1
  unfold cofferlaw01_SumKeeps.f
  rw [first_true]
  simp only [Option.bind_some, if_true]
  rw [on_enc x a2 (by omega), on_enc y a2 (by omega)]
  simp only [Option.bind_some]
  congr 1
  rw [beq_iff_eq, Bool.eq_iff_iff, beq_iff_eq, beq_iff_eq, enc_inj, enc_inj]
  exact Crc.on_inj _ x y
end Go.Proofs.Ytgdcklkdigdegaa.Pure
