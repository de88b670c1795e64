/- Chapter 2: the document's constants, walked by hand. -/
import Derived.Test.YthpnppfpmhlkaaaShaE
namespace Go.Proofs.Ythpnppfpmhlkaaa.Sha
open Go.RowKit Go.Proofs.Ythpnppfpmhlkaaa.X Go.Proofs.YthpnppfpmhlkaaaW.PrintWords Go.Proofs.YthpnppfpmhlkaaaW.PrintLast Go.Proofs.YthpnppfpmhlkaaaW.PrintMore
set_option linter.unusedVariables false
set_option linter.unusedSimpArgs false
set_option maxHeartbeats 8000000 in
set_option maxRecDepth 100000 in
theorem rconstants_calls (w : World) : Calls Try.prog 31 #[] w fun e w' => e = .returned (.agg (vals K0)) ∧ Below w.heap.size w w' := by
  have i47 : (Try.prog.info? 51).map (·.size) = some 64 := by kernel_rfl
  have hv : (vals K0).size = 64 := rfl
  go_enter Try.func31, Try.ntmps31
  go_wp2_with ((with_reducible refine gate_store rfl ?_); go_loud (refine wpList_store_row rfl 51 (.tmp 0) (.tmp 1) rfl w.heap.size (vals K0) rfl (by kernel_rfl) 51 _ (blk_new _ _) (by rw [hv]; exact i47) rfl (vals_one _) ?_))
  refine bodyPost_ret (results_cell_row (fn := Try.f31) rfl _ _ w.heap.size 51 (vals K0) (0, 0) _ rfl (setRow_heap _ w.heap.size _ _ 51 _ (blk_new _ _)) Try.underlying51 rfl (by rw [hv]; exact i47)) rfl ?_
  exact ⟨rfl, below_setRow (below_alloc (Below.refl _ _) _) (Nat.le_refl _) _⟩
end Go.Proofs.Ythpnppfpmhlkaaa.Sha
