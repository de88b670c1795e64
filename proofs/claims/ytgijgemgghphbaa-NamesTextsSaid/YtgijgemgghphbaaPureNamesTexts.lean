/- NamesTexts: Bucket, Key and Data of every text are the document's. No condition beside the row's own. -/
import Derived.Test.YtgijgemgghphbaaX5
import Derived.Test.YtgijgemgghphbaaX12
import Derived.Test.YtgijgemgghphbaaX13
import Derived.Test.YtgijgemgghphbaaX14
import Derived.Test.YtgijgemgghphbaaNamesLink
namespace Go.Proofs.Ytgijgemgghphbaa.Pure
set_option linter.unusedVariables false
set_option linter.unusedSimpArgs false
open Go.RowKit Go.Proofs.Ytgijgemgghphbaa.X Go.Proofs.YtgijgemgghphbaaW.PrintWords Go.Proofs.YtgijgemgghphbaaW.PrintLast
open Go.Proofs.Ytgijgemgghphbaa Go.Proofs.Ytgijgemgghphbaa.Link

theorem NamesTexts : cofferlaw12_NamesTexts.Pure := by
  intro a b c h0 h1 h2
  refine ⟨a.size + 11, ?_⟩
  have hd : names_Data.f c = cofferref12_Data.f c := rfl
  obtain ⟨x, hx⟩ : ∃ x, cofferref12_Key.f b = some x := by
    unfold cofferref12_Key.f; split
    · exact ⟨_, rfl⟩
    · split <;> exact ⟨_, rfl⟩
  obtain ⟨y, hy⟩ : ∃ y, cofferref12_Data.f c = some y := by
    unfold cofferref12_Data.f; split <;> exact ⟨_, rfl⟩
  unfold cofferlaw12_NamesTexts.f
  rw [bucket_eq, first_more _ (by omega), ref_bucket a h0 _ (by omega), key_eq b, hd, hx, hy]
  simp
end Go.Proofs.Ytgijgemgghphbaa.Pure
