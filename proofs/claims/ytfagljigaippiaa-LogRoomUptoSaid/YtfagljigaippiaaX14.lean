-- By a program of this session (wip/xprint.py over the kit's print).
import Derived.Test.YtfagljigaippiaaShelf
import Derived.Test.YtfagljigaippiaaX0
namespace Go.Proofs.Ytfagljigaippiaa.X
open Go.RowKit Go.Proofs.YtfagljigaippiaaW.PrintWords Go.Proofs.YtfagljigaippiaaW.PrintLast Go.Proofs.YtfagljigaippiaaW.PrintMore
attribute [local go_sem] max2_int min2_int max_two min_two max_three min_three max_four min_four Go.Proofs.Ytfagljigaippiaa.Z.leq_string Go.Proofs.Ytfagljigaippiaa.Z.gtr_string Go.Proofs.Ytfagljigaippiaa.Z.geq_string   -- for this text's walks alone
set_option linter.unusedVariables false
set_option linter.unusedSimpArgs false

/-! ### strings_Repeat: function 30 -/
-- the contract: the kit's shelf, laid in plain words (text <Name>Shelf: lay-shelf.mjs, lay-plain.mjs); fix10.py adds its import
def strings_Repeat.f (a0 : ByteArray) (a1 : Int) : Option ByteArray := if 0 ≤ a1 ∧ a1 ≤ 9223372036854775807 ∧ a0.size * a1.toNat ≤ 140737488355328 then some ⟨(Lib.repeatL a0.data.toList a1.toNat).toArray⟩ else none
theorem strings_Repeat.calls (a0 : ByteArray) (a1 : Int) (r : ByteArray) (w : World) (h : strings_Repeat.f a0 a1 = some r) :
    Calls Try.prog 30 #[.string a0, .int .i64 a1] w fun e w' => e = .returned (.string r) ∧ Below w.heap.size w w' := by
  unfold strings_Repeat.f at h
  by_cases hc : 0 ≤ a1 ∧ a1 ≤ 9223372036854775807 ∧ a0.size * a1.toNat ≤ 140737488355328
  · rw [if_pos hc] at h
    obtain rfl := Option.some.inj h
    obtain ⟨h0, h1, h2⟩ := hc
    obtain ⟨n, rfl⟩ := Int.eq_ofNat_of_zero_le h0
    rw [Int.toNat_natCast] at h2 ⊢
    exact Try.strings_Repeat a0 n w (by omega) h2
  · rw [if_neg hc] at h
    cases h

end Go.Proofs.Ytfagljigaippiaa.X
