/- PageBack: every page that may be is read back; a block with one byte turned in its zeros, one byte fewer or more, is none; what is read is written again. -/
import Derived.Test.YtffgodpmmipnkaaStPageBack
import Derived.Test.YtffgodpmmipnkaaPg
namespace Go.Proofs.Ytffgodpmmipnkaa.Pure
set_option linter.unusedVariables false
set_option linter.unusedSimpArgs false
open Go.RowKit Go.Proofs.Ytffgodpmmipnkaa.X Go.Proofs.Ytffgodpmmipnkaa.Pg Go.Proofs.YtffgodpmmipnkaaW.PrintWords Go.Proofs.YtffgodpmmipnkaaW.PrintLast

theorem back_j2 (x : ByteArray) (k : Nat) (hk : 20000 < k) : cofferlaw10_PageBack.j2 k x = some true := by
  obtain ⟨k, rfl⟩ : ∃ q, k = q + 1 := ⟨k - 1, by omega⟩
  simp only [cofferlaw10_PageBack.j2]
  rw [read_eq x k (by omega), Option.bind_some]
  rcases rd_cases x with h | ⟨a, b, l, h, hw, hl⟩
  · rw [h]
    unfold err
    simp only [if_true]
    rw [if_neg (by decide)]
    rfl
  · rw [h]
    simp only [if_true]
    rw [write_eq a b l (by omega) k (by omega), hw, Option.bind_some]
    simp
theorem back_j1 (x : ByteArray) {a b : Int} {l : List S37} (h : Ok a b l) (hl : l.length ≤ 1000) (k : Nat) (hk : 20001 < k) : cofferlaw10_PageBack.j1 k x l (block a b l) false = some true := by
  obtain ⟨k, rfl⟩ : ∃ q, k = q + 1 := ⟨k - 1, by omega⟩
  have ht := h.2.2.2.1
  have h0 := tot0 l
  have hz := block_size a b l ht
  simp only [cofferlaw10_PageBack.j1]
  rw [if_neg (by decide), size_eq l (by omega) k (by omega), Option.bind_some, wrap_mid h0 (by omega), wrap_mid (by omega) (by omega)]
  by_cases hc : 5 + tot l < 512
  · rw [if_pos hc, if_pos (by decide), if_pos (by omega), if_pos (by rw [ByteArray.size_extract]; omega), read_eq _ k (by omega), rd_turned h hc, Option.bind_some]
    unfold err
    simp only [if_true]
    exact back_j2 x k (by omega)
  · rw [if_neg hc]
    exact back_j2 x k (by omega)
theorem back_j0 (x : ByteArray) {a b : Int} {l : List S37} (h : Ok a b l) (hl : l.length ≤ 1000) (k : Nat) (hk : 20002 < k) : cofferlaw10_PageBack.j0 k x l (block a b l) false = some true := by
  obtain ⟨k, rfl⟩ : ∃ q, k = q + 1 := ⟨k - 1, by omega⟩
  have hz := block_size a b l h.2.2.2.1
  simp only [cofferlaw10_PageBack.j0]
  rw [if_neg (by decide), if_pos (by decide), if_pos (by omega), read_eq _ k (by omega), rd_size _ (by rw [ByteArray.size_extract]; omega), Option.bind_some, if_pos (by omega), read_eq _ k (by omega), rd_size _ (by rw [ByteArray.size_append, hz]; decide), Option.bind_some]
  unfold err
  simp only [if_true]
  exact back_j1 x h hl k (by omega)
theorem PageBack : cofferlaw10_PageBack.Pure := by
  intro a0 a1 l2 a3 _ _ hl2 _
  refine ⟨30000, ?_⟩
  obtain ⟨l, hf, hS, hs, ht⟩ := full_eq l2 (by omega) 30000 (by omega)
  have hlen := tot_pos l
  have m0 := and_mask a0 255 (by omega)
  have m1 := and_mask a1 65535 (by omega)
  have hok : Ok (Go.bits .and .i64 a0 255) (Go.bits .and .i64 a1 65535) l := ⟨m0, m1, hs, ht, hS⟩
  have hz := block_size (Go.bits .and .i64 a0 255) (Go.bits .and .i64 a1 65535) l ht
  unfold cofferlaw10_PageBack.f
  rw [first_true 30000 (by omega), Option.bind_some, if_pos rfl, hf, Option.bind_some, write_eq _ _ l (by omega) 30000 (by omega), wr_ok hok, Option.bind_some]
  simp only []
  rw [read_eq _ 30000 (by omega), rd_block hok, Option.bind_some]
  simp only [hz, if_true]
  rw [if_pos (by decide), same_self l (by omega) 30000 (by omega), Option.bind_some]
  exact back_j0 a3 hok (by omega) 30000 (by omega)
end Go.Proofs.Ytffgodpmmipnkaa.Pure
