/- Chapter 2: hash.constants, begun, blocks, walked by hand. -/
import Derived.Test.YthpnppfpmhlkaaaShaT
namespace Go.Proofs.Ythpnppfpmhlkaaa.Sha
open Go.RowKit Go.Proofs.Ythpnppfpmhlkaaa.X Go.Proofs.YthpnppfpmhlkaaaW.PrintWords Go.Proofs.YthpnppfpmhlkaaaW.PrintLast Go.Proofs.YthpnppfpmhlkaaaW.PrintMore
set_option linter.unusedVariables false
set_option linter.unusedSimpArgs false

def K0 : List (BitVec 32) := [0x428a2f98#32, 0x71374491#32, 0xb5c0fbcf#32, 0xe9b5dba5#32, 0x3956c25b#32, 0x59f111f1#32, 0x923f82a4#32, 0xab1c5ed5#32, 0xd807aa98#32, 0x12835b01#32, 0x243185be#32, 0x550c7dc3#32, 0x72be5d74#32, 0x80deb1fe#32, 0x9bdc06a7#32, 0xc19bf174#32, 0xe49b69c1#32, 0xefbe4786#32, 0x0fc19dc6#32, 0x240ca1cc#32, 0x2de92c6f#32, 0x4a7484aa#32, 0x5cb0a9dc#32, 0x76f988da#32, 0x983e5152#32, 0xa831c66d#32, 0xb00327c8#32, 0xbf597fc7#32, 0xc6e00bf3#32, 0xd5a79147#32, 0x06ca6351#32, 0x14292967#32, 0x27b70a85#32, 0x2e1b2138#32, 0x4d2c6dfc#32, 0x53380d13#32, 0x650a7354#32, 0x766a0abb#32, 0x81c2c92e#32, 0x92722c85#32, 0xa2bfe8a1#32, 0xa81a664b#32, 0xc24b8b70#32, 0xc76c51a3#32, 0xd192e819#32, 0xd6990624#32, 0xf40e3585#32, 0x106aa070#32, 0x19a4c116#32, 0x1e376c08#32, 0x2748774c#32, 0x34b0bcb5#32, 0x391c0cb3#32, 0x4ed8aa4a#32, 0x5b9cca4f#32, 0x682e6ff3#32, 0x748f82ee#32, 0x78a5636f#32, 0x84c87814#32, 0x8cc70208#32, 0x90befffa#32, 0xa4506ceb#32, 0xbef9a3f7#32, 0xc67178f2#32]
def H0 : S8 := ⟨0x6a09e667#32, 0xbb67ae85#32, 0x3c6ef372#32, 0xa54ff53a#32, 0x510e527f#32, 0x9b05688c#32, 0x1f83d9ab#32, 0x5be0cd19#32⟩
theorem exec_load_row {P : Program} {o : Oper} {f : Operand → Value} {w : World} (ty : TypeId) (x : Operand) (ho : o.op = .load ty x) (g : Nat) (hx : f x = .pointer (some ⟨g, 0, none⟩)) (t : TypeId) (cs : Array Value) (fr : Nat × Nat) (d : TypeDesc) (hg : w.heap[g]? = some (.cells cs t fr))
    (hu : P.underlying ty = some d) (hd : (match d with | .struct _ | .array _ _ => true | _ => false) = true) (hi : (P.info? ty).map (·.size) = some cs.size) : (execOp f o).run P w = .ok (.value (.agg cs)) w := by
  unfold execOp
  simp only [ho, hx, Instr.loadAt, Instr.sureAddr, Sem.run_bind, Sem.run_pure, Result.andThen_ok, run_loadVar_row w g t ty cs fr d hg hu hd hi]
set_option maxHeartbeats 8000000 in
set_option maxRecDepth 100000 in
theorem begun_calls (w : World) : Calls Try.prog 35 #[] w fun e w' => e = .returned (.agg (vals (lst H0))) ∧ Below w.heap.size w w' := by
  have i46 : (Try.prog.info? 50).map (·.size) = some 8 := by kernel_rfl
  have hv : (vals (lst H0)).size = 8 := rfl
  go_enter Try.func35, Try.ntmps35
  go_wp2_with ((with_reducible refine gate_store rfl ?_); go_loud (refine wpList_store_row rfl 50 (.tmp 0) (.tmp 1) rfl w.heap.size (vals (lst H0)) rfl (by kernel_rfl) 50 _ (blk_new _ _) (by rw [hv]; exact i46) rfl (vals_one _) ?_))
  refine bodyPost_ret (results_cell_row (fn := Try.f35) rfl _ _ w.heap.size 50 (vals (lst H0)) (0, 0) _ rfl (setRow_heap _ w.heap.size _ _ 50 _ (blk_new _ _)) Try.underlying50 rfl (by rw [hv]; exact i46)) rfl ?_
  exact ⟨rfl, below_setRow (below_alloc (Below.refl _ _) _) (Nat.le_refl _) _⟩
set_option maxHeartbeats 8000000 in
set_option maxRecDepth 100000 in
theorem constants_calls (w : World) : Calls Try.prog 40 #[] w fun e w' => e = .returned (.agg (vals K0)) ∧ Below w.heap.size w w' := by
  have i47 : (Try.prog.info? 51).map (·.size) = some 64 := by kernel_rfl
  have hv : (vals K0).size = 64 := rfl
  go_enter Try.func40, Try.ntmps40
  go_wp2_with ((with_reducible refine gate_store rfl ?_); go_loud (refine wpList_store_row rfl 51 (.tmp 0) (.tmp 1) rfl w.heap.size (vals K0) rfl (by kernel_rfl) 51 _ (blk_new _ _) (by rw [hv]; exact i47) rfl (vals_one _) ?_))
  refine bodyPost_ret (results_cell_row (fn := Try.f40) rfl _ _ w.heap.size 51 (vals K0) (0, 0) _ rfl (setRow_heap _ w.heap.size _ _ 51 _ (blk_new _ _)) Try.underlying51 rfl (by rw [hv]; exact i47)) rfl ?_
  exact ⟨rfl, below_setRow (below_alloc (Below.refl _ _) _) (Nat.le_refl _) _⟩
end Go.Proofs.Ythpnppfpmhlkaaa.Sha
