/- Chapter 7: block. -/
import Derived.Test.YtfagljigaippiaaLgN
namespace Go.Proofs.Ytfagljigaippiaa.Dk
open Go.RowKit Go.Maps Go.Proofs.Ytfagljigaippiaa.X Go.Proofs.YtfagljigaippiaaW.PrintWords Go.Proofs.YtfagljigaippiaaW.PrintLast Go.Proofs.YtfagljigaippiaaW.PrintMore
set_option linter.unusedVariables false
set_option linter.unusedSimpArgs false

theorem zs_made (k : Nat) (hk : k ≤ 512) (W : World) : (convert 80 9 (.slice (some ⟨W.heap.size, 0, none⟩) k k)).run Try.prog (W.alloc (.cells (madeCells #[.int .u8 0] k) 5)) = .ok (.string (zs k)) (W.alloc (.cells (madeCells #[.int .u8 0] k) 5)) := by
  have h := own_made W W.heap.size 5 .u8 k (Nat.le_refl _) (by omega)
  have h2 := own_string (P := Try.prog) (src := 80) (dst := 9) (e := 5) Try.underlying80 Try.underlying5 Try.underlying9 h
  rw [h2]
  have e : strOfNums (List.replicate k (0 : Int)) = zs k := nums_rep 0 k
  rw [e]
theorem z_made (k : Nat) (hk : k ≤ 512) (W : World) : (Instr.makeSlice 80 (.int .i64 (k : Int)) (.int .i64 (k : Int))).run Try.prog W = .ok (.slice (some ⟨W.heap.size, 0, none⟩) k k) (W.alloc (.cells (madeCells #[.int .u8 0] k) 5)) := print_make 80 5 .u8 1 Try.underlying80 (by kernel_rfl) (by decide) k (by omega) W
/-- A text of 512 bytes out of any. -/
def blk (t : ByteArray) : ByteArray := pad (if t.size > 512 then t.extract 0 512 else t)
theorem blk_size (t : ByteArray) : (blk t).size = 512 := by
  unfold blk
  apply pad_size
  split
  · rw [ByteArray.size_extract]; omega
  · omega
set_option maxHeartbeats 8000000 in
set_option maxRecDepth 100000 in
theorem block_calls (t : ByteArray) (ht : t.size ≤ 1048576) (w : World) : Calls Try.prog 11 #[.string t] w fun e w' => e = .returned (.string (blk t)) ∧ Below w.heap.size w w' := by
  by_cases h : t.size > 512
  · have hb : blk t = t.extract 0 512 ++ zs 0 := by
      unfold blk pad
      rw [if_pos h, show 512 - (t.extract 0 512).size = 0 by rw [ByteArray.size_extract]; omega]
    rw [hb]
    have hes : (t.extract 0 512).size = 512 := by rw [ByteArray.size_extract]; omega
    have q1 : ((512 : Int) < (t.size : Int)) = True := eq_true (by omega)
    have q2 : ((512 : Int) ≤ (t.size : Int)) = True := eq_true (by omega)
    have q2' : (512 ≤ t.size) = True := eq_true (by omega)
    have q2'' : (512 < t.size) = True := eq_true (by omega)
    have h1 := fun W => z_made 0 (by decide) W
    have h2 := fun W => zs_made 0 (by decide) W
    have hz : (zs 0).size = 0 := zs_size 0
    generalize zs 0 = z at h2 hz ⊢
    have q3 : ((t.extract 0 512).size + z.size ≤ 9223372036854775807) = True := eq_true (by omega)
    have q4 : (9223372036854775807 < (t.extract 0 512).size + z.size) = False := eq_false (by omega)
    replace h1 : ∀ W : World, (Instr.makeSlice 80 (.int .i64 0) (.int .i64 0)).run Try.prog W = .ok (.slice (some ⟨W.heap.size, 0, none⟩) 0 0) (W.alloc (.cells (madeCells #[.int .u8 0] 0) 5)) := h1
    clear hb
    have e0 : wrap64 (512 - ((t.extract 0 512).size : Int)) = 0 := by rw [hes]; unfold wrap64; omega
    go_enter Try.func11, Try.ntmps11
    go_wp2
    go_ret
    exact ⟨rfl, (Below.refl _ _).alloc (Nat.le_refl _) _⟩
  · have hb : blk t = t ++ zs (512 - t.size) := by
      unfold blk pad
      rw [if_neg h]
    rw [hb]
    clear hb
    obtain ⟨k, hk⟩ : ∃ k, k = 512 - t.size := ⟨_, rfl⟩
    have e : (512 - (t.size : Int)) = (k : Int) := by omega
    have ew : wrap64 (512 - (t.size : Int)) = (k : Int) := by rw [e]; unfold wrap64; omega
    rw [← hk]
    have q1 : ((512 : Int) < (t.size : Int)) = False := eq_false (by omega)
    have q1' : (512 < t.size) = False := eq_false (by omega)
    have h1 := fun W => z_made k (by omega) W
    have h2 := fun W => zs_made k (by omega) W
    have hz := zs_size k
    generalize zs k = z at h2 hz ⊢
    have q3 : (t.size + z.size ≤ 9223372036854775807) = True := eq_true (by omega)
    have q4 : (9223372036854775807 < t.size + z.size) = False := eq_false (by omega)
    clear hk hz
    go_enter Try.func11, Try.ntmps11
    go_wp2
    go_ret
    exact ⟨rfl, (Below.refl _ _).alloc (Nat.le_refl _) _⟩
end Go.Proofs.Ytfagljigaippiaa.Dk
