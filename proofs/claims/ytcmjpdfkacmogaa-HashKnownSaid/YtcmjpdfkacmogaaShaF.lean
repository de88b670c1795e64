/- Chapter 2: the document's constants, walked by hand. -/
import Derived.Test.YtcmjpdfkacmogaaShaE
namespace Go.Proofs.Ytcmjpdfkacmogaa.Sha
open Go.RowKit Go.Proofs.Ytcmjpdfkacmogaa.X Go.Proofs.YtcmjpdfkacmogaaW.PrintWords Go.Proofs.YtcmjpdfkacmogaaW.PrintLast Go.Proofs.YtcmjpdfkacmogaaW.PrintMore
set_option linter.unusedVariables false
set_option linter.unusedSimpArgs false
set_option maxHeartbeats 8000000 in
set_option maxRecDepth 100000 in
theorem rconstants_calls (w : World) : Calls Try.prog 20 #[] w fun e w' => e = .returned (.agg (vals K0)) ∧ Below w.heap.size w w' := by
  have i47 : (Try.prog.info? 47).map (·.size) = some 64 := by kernel_rfl
  have hv : (vals K0).size = 64 := rfl
  go_enter Try.func20, Try.ntmps20
  go_wp2_with ((with_reducible refine gate_store rfl ?_); go_loud (refine wpList_store_row rfl 47 (.tmp 0) (.tmp 1) rfl w.heap.size (vals K0) rfl (by kernel_rfl) 47 _ (blk_new _ _) (by rw [hv]; exact i47) rfl (vals_one _) ?_))
  refine bodyPost_ret (results_cell_row (fn := Try.f20) rfl _ _ w.heap.size 47 (vals K0) (0, 0) _ rfl (setRow_heap _ w.heap.size _ _ 47 _ (blk_new _ _)) Try.underlying47 rfl (by rw [hv]; exact i47)) rfl ?_
  exact ⟨rfl, below_setRow (below_alloc (Below.refl _ _) _) (Nat.le_refl _) _⟩
end Go.Proofs.Ytcmjpdfkacmogaa.Sha
