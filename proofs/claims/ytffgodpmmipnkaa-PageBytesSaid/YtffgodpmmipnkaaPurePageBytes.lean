/- PageBytes: Write of every page and Read of every text are the document's; the entries that are handed in stay, spare room too; written over, they are written as they are then. -/
import Derived.Test.YtffgodpmmipnkaaStPageBytes
import Derived.Test.YtffgodpmmipnkaaPgKept
import Derived.Test.YtffgodpmmipnkaaPgRw
namespace Go.Proofs.Ytffgodpmmipnkaa.Pure
set_option linter.unusedVariables false
set_option linter.unusedSimpArgs false
open Go.RowKit Go.Proofs.Ytffgodpmmipnkaa.X Go.Proofs.Ytffgodpmmipnkaa.Pg Go.Proofs.YtffgodpmmipnkaaW.PrintWords Go.Proofs.YtffgodpmmipnkaaW.PrintLast

theorem bytes_l0 (a b : Int) (n : Nat) (hn : n < 4398046511104) (j : Nat) : ∀ (k i : Nat) (xs : List S37), xs.length = n → i + j = n → 2 * n + j + 30000 < k → (∀ t (h : t < xs.length), i ≤ t → xs[t].f1.size ≤ 140737488351232) →
    cofferlaw10_PageBytes.l0 k a b xs (i : Int) = some true := by
  induction j with
  | zero =>
    intro k i xs hx h hk hV
    obtain ⟨k, rfl⟩ : ∃ q, k = q + 1 := ⟨k - 1, by omega⟩
    simp only [cofferlaw10_PageBytes.l0]
    rw [if_neg (by omega), write_eq a b xs (by omega) k (by omega), Option.bind_some, rwrite_eq a b xs (by omega) k (by omega), Option.bind_some, if_pos rfl, if_pos rfl, size_eq xs (by omega) k (by omega), Option.bind_some, rsize_eq xs (by omega) k (by omega), Option.bind_some, if_pos rfl, first_true k (by omega)]
    rfl
  | succ j ih =>
    intro k i xs hx h hk hV
    obtain ⟨k, rfl⟩ : ∃ q, k = q + 1 := ⟨k - 1, by omega⟩
    have hlt : i < xs.length := by omega
    have hv := hV i hlt (Nat.le_refl _)
    simp only [cofferlaw10_PageBytes.l0]
    rw [if_pos (by omega), if_pos (by omega), rd_at xs i hlt, if_pos (by omega), wn i (by omega), Int.toNat_natCast]
    refine ih k (i + 1) _ (by rw [List.length_set]; exact hx) (by omega) (by omega) ?_
    intro t ht hit
    rw [List.length_set] at ht
    rw [List.getElem_set_ne (by omega)]
    exact hV t ht (by omega)
theorem PageBytes : cofferlaw10_PageBytes.Pure := by
  intro a0 a1 l2 a3 _ _ hl2 _
  obtain ⟨K, hK⟩ : ∃ K, K = 3 * l2.length + 50000 := ⟨_, rfl⟩
  refine ⟨K, ?_⟩
  have hn : l2.length < 4398046511104 := by omega
  have hr : (rdS a3).2.2.1.length ≤ 1000 := by
    rcases rd_cases a3 with h | ⟨a, b, l, h, _, hl⟩
    · rw [h]; simp [err]
    · rw [h]; exact hl
  unfold cofferlaw10_PageBytes.f
  rw [lent_eq l2 hn, Option.bind_some, write_eq a0 a1 l2 (by omega) K (by omega), Option.bind_some, Option.bind_some, rwrite_eq a0 a1 l2 (by omega) K (by omega), Option.bind_some, read_eq a3 K (by omega), Option.bind_some, rread_eq a3 K (by omega), Option.bind_some]
  rw [if_pos rfl, if_pos rfl, if_pos rfl, if_pos rfl, kept_self l2 hn K (by omega), Option.bind_some, if_pos rfl, if_pos rfl, if_pos rfl, if_pos rfl, same_self _ (by omega) K (by omega), Option.bind_some, Bool.not_true]
  obtain ⟨k, rfl⟩ : ∃ q, K = q + 1 := ⟨K - 1, by omega⟩
  simp only [cofferlaw10_PageBytes.j0]
  rw [if_neg (by decide)]
  exact bytes_l0 a0 a1 l2.length hn l2.length k 0 l2 rfl (by omega) (by omega) (fun t ht _ => (hl2.2 _ (List.getElem_mem ht)).2)
end Go.Proofs.Ytffgodpmmipnkaa.Pure
