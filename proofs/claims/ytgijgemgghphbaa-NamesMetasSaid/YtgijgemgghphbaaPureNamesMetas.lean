/- NamesMetas: Meta of every list is the document's; what is lent stays, and written over it is told as it stands then. No condition beside the row's own. -/
import Derived.Test.YtgijgemgghphbaaStNamesMetas
import Derived.Test.YtgijgemgghphbaaNamesRef
import Derived.Test.YtgijgemgghphbaaKeptPure
namespace Go.Proofs.Ytgijgemgghphbaa.Pure
set_option linter.unusedVariables false
set_option linter.unusedSimpArgs false
open Go.RowKit Go.Proofs.Ytgijgemgghphbaa.X Go.Proofs.YtgijgemgghphbaaW.PrintWords Go.Proofs.YtgijgemgghphbaaW.PrintLast
open Go.Proofs.Ytgijgemgghphbaa Go.Proofs.Ytgijgemgghphbaa.Link

theorem bind_of {α β : Type} {x : Option α} {f : α → Option β} {v : α} {r : Option β} (h : x = some v) (h2 : f v = r) : x.bind f = r := by rw [h]; exact h2
theorem l0_true (M : Nat) (hM2 : M ≤ 140737488351232) (n : Nat) (hn : n < 4398046511104) (j : Nat) : ∀ (k i : Nat) (xs : List S31), xs.length = n → i + j = n → n + M + j + 30 < k → (∀ p ∈ xs, p.f0.size ≤ M) → (∀ t (h : t < xs.length), i ≤ t → xs[t].f1.size ≤ 140737488351232) →
    cofferlaw12_NamesMetas.l0 k xs (i : Int) = some true := by
  induction j with
  | zero =>
    intro k i xs hx h hk _ _
    obtain ⟨k, rfl⟩ : ∃ q, k = q + 1 := ⟨k - 1, by omega⟩
    simp only [cofferlaw12_NamesMetas.l0]
    rw [if_neg (by omega)]
  | succ j ih =>
    intro k i xs hx h hk hM hV
    obtain ⟨k, rfl⟩ : ∃ q, k = q + 1 := ⟨k - 1, by omega⟩
    have hlt : i < xs.length := by omega
    have hw : wrap64 ((i : Int) + 1) = ((i + 1 : Nat) : Int) := by unfold wrap64; omega
    have hv := hV i hlt (Nat.le_refl _)
    simp only [cofferlaw12_NamesMetas.l0]
    rw [if_pos (by omega), hw]
    refine bind_of (meta_eq xs (by omega) k (by omega)) ?_
    rw [if_pos (by omega), rd_at xs i hlt, if_pos (by omega), Int.toNat_natCast]
    simp only [Option.bind_some, List.nil_append, List.length_nil]
    generalize hy : xs.set i (⟨xs[i].f0, xs[i].f1 ++ (⟨#[48, 49, 50, 51, 52, 53, 54, 55, 56, 57, 48, 49, 50, 51, 52, 53, 54, 55, 56, 57, 48, 49, 50, 51, 52, 53, 54, 55, 56, 57, 48, 49, 50, 51, 52, 53, 54, 55, 56, 57]⟩ : ByteArray)⟩ : S31) = ys
    have hl : ys.length = n := by rw [← hy, List.length_set]; exact hx
    have hN : ∀ p ∈ ys, p.f0.size ≤ M := by
      intro p hp
      rw [← hy] at hp
      rcases List.mem_or_eq_of_mem_set hp with hp | rfl
      · exact hM p hp
      · exact hM xs[i] (List.getElem_mem hlt)
    have hW : ∀ t (h : t < ys.length), i + 1 ≤ t → ys[t].f1.size ≤ 140737488351232 := by
      intro t ht hi
      subst hy
      rw [List.getElem_set_ne (by omega)]
      exact hV t (by omega) (by omega)
    rw [if_pos (by omega)]
    refine bind_of (meta_eq ys (by omega) k (by omega)) ?_
    refine bind_of (ref_meta ys M hN (by omega) k (by omega)) ?_
    rw [if_pos rfl]
    exact ih k (i + 1) ys hl (by omega) (by omega) hN hW
theorem NamesMetas : cofferlaw12_NamesMetas.Pure := by
  intro l hl
  obtain ⟨hl, hq⟩ := hl
  refine ⟨2 * l.length + 140737488351232 + 100, ?_⟩
  generalize hk : 2 * l.length + 140737488351232 + 100 = k
  unfold cofferlaw12_NamesMetas.f
  refine bind_of (first_more k (by omega)) ?_
  rw [if_pos rfl]
  refine bind_of (lend_eq l (by omega)) ?_
  refine bind_of (ref_meta l 140737488351232 (fun p hp => (hq p hp).1) (by omega) k (by omega)) ?_
  refine bind_of (meta_eq l (by omega) k (by omega)) ?_
  refine bind_of (meta_eq l (by omega) k (by omega)) ?_
  rw [if_pos rfl, if_pos rfl]
  refine bind_of (kept_self l (by omega) k (by omega)) ?_
  obtain ⟨k, rfl⟩ : ∃ q, k = q + 1 := ⟨k - 1, by omega⟩
  simp only [cofferlaw12_NamesMetas.j0, Bool.not_true]
  rw [if_neg (by decide)]
  exact l0_true 140737488351232 (by omega) l.length (by omega) l.length k 0 l rfl (by omega) (by omega) (fun p hp => (hq p hp).1) (fun t h _ => (hq _ (List.getElem_mem h)).2)
end Go.Proofs.Ytgijgemgghphbaa.Pure
