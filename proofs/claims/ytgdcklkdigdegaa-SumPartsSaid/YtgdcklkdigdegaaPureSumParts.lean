/- SumParts: however a text is cut in three, Of the whole and On of its parts tell one number. No condition beside the row's own. -/
import Derived.Test.YtgdcklkdigdegaaX8
import Derived.Test.YtgdcklkdigdegaaCrcRef
namespace Go.Proofs.Ytgdcklkdigdegaa.Pure
set_option linter.unusedVariables false
set_option linter.unusedSimpArgs false
open Go.RowKit Go.Proofs.Ytgdcklkdigdegaa.X Go.Proofs.YtgdcklkdigdegaaW.PrintWords Go.Proofs.YtgdcklkdigdegaaW.PrintLast
open Go.Proofs.Ytgdcklkdigdegaa Go.Proofs.Ytgdcklkdigdegaa.Link

theorem SumParts : cofferlaw01_SumParts.Pure := by
  intro a b c h0 h1 h2
  have s1 : (a ++ b).size = a.size + b.size := ByteArray.size_append
  have s2 : ((a ++ b) ++ c).size = a.size + b.size + c.size := by rw [ByteArray.size_append, s1]
  have s3 : (b ++ c).size = b.size + c.size := ByteArray.size_append
  have l1 : (a ++ b).data.toList = a.data.toList ++ b.data.toList := by simp
  have l2 : ((a ++ b) ++ c).data.toList = a.data.toList ++ (b.data.toList ++ c.data.toList) := by simp
  have l3 : (b ++ c).data.toList = b.data.toList ++ c.data.toList := by simp
  have z : (0 : Int) = enc 0#64 := by decide
  unfold cofferlaw01_SumParts.f
  rw [first_true]
  simp only [Option.bind_some, if_true]
  rw [if_pos (by omega), if_pos (by omega), of_enc' _ (by omega), of_enc' a (by omega)]
  simp only [Option.bind_some]
  rw [on_enc _ b (by omega)]
  simp only [Option.bind_some]
  rw [on_enc _ c (by omega)]
  simp only [Option.bind_some]
  rw [l2, Crc.on_append, Crc.on_append, if_pos rfl, if_pos (by omega), on_enc _ _ (by omega), l3, Crc.on_append]
  simp only [Option.bind_some, eq_self]
  rw [if_true, z, on_enc _ _ (by omega), l2, Crc.on_append, Crc.on_append]
  simp only [Option.bind_some, eq_self]
  rw [if_true, on_enc _ _ (by decide)]
  simp only [Option.bind_some]
  rw [Crc.on_nil]
  simp
end Go.Proofs.Ytgdcklkdigdegaa.Pure
