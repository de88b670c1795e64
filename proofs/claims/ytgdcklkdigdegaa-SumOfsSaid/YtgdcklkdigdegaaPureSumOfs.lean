/- SumOfs: every Of and every On of the program is the document's number, at every text and number, asked again too. No condition beside the row's own. -/
import Derived.Test.YtgdcklkdigdegaaX5
import Derived.Test.YtgdcklkdigdegaaX6
import Derived.Test.YtgdcklkdigdegaaX7
import Derived.Test.YtgdcklkdigdegaaCrcRef
namespace Go.Proofs.Ytgdcklkdigdegaa.Pure
set_option linter.unusedVariables false
set_option linter.unusedSimpArgs false
open Go.RowKit Go.Proofs.Ytgdcklkdigdegaa.X Go.Proofs.YtgdcklkdigdegaaW.PrintWords Go.Proofs.YtgdcklkdigdegaaW.PrintLast
open Go.Proofs.Ytgdcklkdigdegaa Go.Proofs.Ytgdcklkdigdegaa.Link

theorem SumOfs : cofferlaw01_SumOfs.Pure := by
  intro a0 a1 a2 h0 h1 h2
  obtain ⟨x, rfl⟩ := wf_enc h0
  have r1 : cofferref01_Of.f (10 * (a1.size + a2.size) + 1) a1 = some (enc (Crc.on 0#64 a1.data.toList)) := at_rounds (fun k => cofferref01_Of.mono a1 k) (by omega) (ref_of a1 h1)
  have r2 : cofferref01_Of.f (10 * (a1.size + a2.size) + 1) a2 = some (enc (Crc.on 0#64 a2.data.toList)) := at_rounds (fun k => cofferref01_Of.mono a2 k) (by omega) (ref_of a2 h2)
  have r3 : cofferref01_On.f (10 * (a1.size + a2.size) + 1) (enc x) a1 = some (enc (Crc.on x a1.data.toList)) := at_rounds (fun k => cofferref01_On.mono _ a1 k) (by omega) (ref_on x a1 h1)
  refine ⟨10 * (a1.size + a2.size) + 1, ?_⟩
  unfold cofferlaw01_SumOfs.f
  rw [first_true]
  simp only [Option.bind_some, if_true]
  rw [of_enc' a1 (by omega), on_enc x a1 (by omega), of_enc' a2 (by omega), r1, r2, r3]
  simp
end Go.Proofs.Ytgdcklkdigdegaa.Pure
