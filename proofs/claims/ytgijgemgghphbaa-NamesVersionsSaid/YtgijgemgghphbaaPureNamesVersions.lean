/- NamesVersions: Version and Size of every version are the document's; what is lent stays, and written over it is told as it stands then. No condition beside the row's own. -/
import Derived.Test.YtgijgemgghphbaaStNamesVersions
import Derived.Test.YtgijgemgghphbaaNamesRef
import Derived.Test.YtgijgemgghphbaaKeptPure
namespace Go.Proofs.Ytgijgemgghphbaa.Pure
set_option linter.unusedVariables false
set_option linter.unusedSimpArgs false
open Go.RowKit Go.Proofs.Ytgijgemgghphbaa.X Go.Proofs.YtgijgemgghphbaaW.PrintWords Go.Proofs.YtgijgemgghphbaaW.PrintLast
open Go.Proofs.Ytgijgemgghphbaa Go.Proofs.Ytgijgemgghphbaa.Link

theorem bind_of {α β : Type} {x : Option α} {f : α → Option β} {v : α} {r : Option β} (h : x = some v) (h2 : f v = r) : x.bind f = r := by rw [h]; exact h2
theorem l0_true (a : ByteArray) (q : Int) (m : Bool) (d : ByteArray) (M : Nat) (hM2 : M + 1 ≤ 140737488351233) (n : Nat) (hn : n < 4398046511104) (j : Nat) : ∀ (k i : Nat) (xs : List S31), xs.length = n → i + j = n → n + M + j + 60 < k → (∀ t (h : t < xs.length), i ≤ t → xs[t].f0.size ≤ M) → (∀ p ∈ xs, p.f0.size ≤ M + 1) →
    cofferlaw12_NamesVersions.l0 k (i : Int) a q m d xs = some true := by
  induction j with
  | zero =>
    intro k i xs hx h hk hV hM
    obtain ⟨k, rfl⟩ : ∃ q, k = q + 1 := ⟨k - 1, by omega⟩
    simp only [cofferlaw12_NamesVersions.l0]
    rw [if_neg (by omega)]
    simp only [Option.bind_some, List.nil_append, List.length_nil]
    rw [if_pos (by omega)]
    obtain ⟨u, h1, h2⟩ := version_alike k a q m d xs (by omega) (M + 1) hM (by omega) (by omega)
    obtain ⟨v, h3, h4⟩ := size_alike k a q m d xs (by omega) (by omega)
    refine bind_of h1 ?_
    refine bind_of h3 ?_
    refine bind_of h2 ?_
    rw [if_pos rfl]
    refine bind_of h4 ?_
    simp
  | succ j ih =>
    intro k i xs hx h hk hV hM
    obtain ⟨k, rfl⟩ : ∃ q, k = q + 1 := ⟨k - 1, by omega⟩
    have hlt : i < xs.length := by omega
    have hw : wrap64 ((i : Int) + 1) = ((i + 1 : Nat) : Int) := by unfold wrap64; omega
    have hv := hV i hlt (Nat.le_refl _)
    simp only [cofferlaw12_NamesVersions.l0]
    rw [if_pos (by omega), hw, if_pos (by omega), rd_at xs i hlt, if_pos (by omega), Int.toNat_natCast]
    refine ih k (i + 1) _ (by rw [List.length_set]; exact hx) (by omega) (by omega) ?_ ?_
    · intro t ht hi
      rw [List.getElem_set_ne (by omega)]
      exact hV t (by rw [List.length_set] at ht; exact ht) (by omega)
    · intro p hp
      rcases List.mem_or_eq_of_mem_set hp with hp | rfl
      · exact hM p hp
      · show (xs[i].f0 ++ (⟨#[45]⟩ : ByteArray)).size ≤ M + 1
        rw [ByteArray.size_append]
        have : (⟨#[45]⟩ : ByteArray).size = 1 := rfl
        omega
theorem NamesVersions : cofferlaw12_NamesVersions.Pure := by
  intro x hx
  obtain ⟨_, _, _, _, hl, hq⟩ := hx
  refine ⟨2 * x.f4.length + 140737488351232 + 200, ?_⟩
  generalize hk : 2 * x.f4.length + 140737488351232 + 200 = k
  obtain ⟨u, h1, h2⟩ := version_alike k x.f0 x.f1 x.f2 x.f3 x.f4 (by omega) 140737488351232 (fun p hp => (hq p hp).1) (by omega) (by omega)
  obtain ⟨v, h3, h4⟩ := size_alike k x.f0 x.f1 x.f2 x.f3 x.f4 (by omega) (by omega)
  unfold cofferlaw12_NamesVersions.f
  refine bind_of (first_more k (by omega)) ?_
  rw [if_pos rfl]
  refine bind_of (lend_eq x.f4 (by omega)) ?_
  refine bind_of h1 ?_
  refine bind_of h3 ?_
  refine bind_of h2 ?_
  rw [if_pos rfl]
  refine bind_of h4 ?_
  rw [if_pos rfl]
  refine bind_of (kept_self x.f4 (by omega) k (by omega)) ?_
  obtain ⟨k, rfl⟩ : ∃ q, k = q + 1 := ⟨k - 1, by omega⟩
  simp only [cofferlaw12_NamesVersions.j0, Bool.not_true]
  rw [if_neg (by decide)]
  exact l0_true x.f0 x.f1 x.f2 x.f3 140737488351232 (by omega) x.f4.length (by omega) x.f4.length k 0 x.f4 rfl (by omega) (by omega) (fun t h _ => (hq _ (List.getElem_mem h)).1) (fun p hp => by have := (hq p hp).1; omega)
end Go.Proofs.Ytgijgemgghphbaa.Pure
