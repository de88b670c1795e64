/- A literal of one entry, made in a region whose guards are known: told at the call that it goes to. -/
import Derived.Test.YtffgodpmmipnkaaX0
namespace Go.Proofs.Ytffgodpmmipnkaa.X
open Go.RowKit Go.Proofs.YtffgodpmmipnkaaW.PrintWords Go.Proofs.YtffgodpmmipnkaaW.PrintLast
theorem lit_call {P : Program} {n : Nat} {x : Value} {W : World} {g : Nat} {a b : ByteArray} {Post : Ending → World → Prop} (hg : g = W.heap.size)
    (h : ∀ v w1, Kd.R k37 37 w1 W.heap.size (fun _ => True) v [(⟨a, b⟩ : S37)] → Below W.heap.size W w1 → Calls P n #[x, v] w1 Post) :
    Calls P n #[x, .slice (some ⟨g, 0, none⟩) 1 1] (W.alloc (.cells #[.string a, .string b] 37)) Post := by
  subst hg
  refine h _ _ ⟨fun _ _ => trivial, [.string a, .string b], ⟨rfl, .inr ⟨W.heap.size, 1, _, rfl, Nat.le_refl _, blk_new W _, Nat.le_refl 1, by simp [maxLen], rfl, rfl⟩⟩, ?_⟩ (below_alloc (Below.refl _ _) _)
  exact Reps.snoc (ps := []) (cs := []) (Reps.none _ _) (k37_mkM _ _ _ (⟨a, b⟩ : S37)) rfl
end Go.Proofs.Ytffgodpmmipnkaa.X
