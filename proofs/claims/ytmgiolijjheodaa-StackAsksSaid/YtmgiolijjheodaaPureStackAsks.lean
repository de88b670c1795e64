/- StackAsks: every Get, Remove, Since and Rows of any list is the document's; what is handed in stays, spare room too. No condition beside the row's own. -/
import Derived.Test.YtmgiolijjheodaaStStackAsks
import Derived.Test.YtmgiolijjheodaaAskMath
import Derived.Test.YtmgiolijjheodaaX16
namespace Go.Proofs.Ytmgiolijjheodaa.Pure
set_option linter.unusedVariables false
set_option linter.unusedSimpArgs false
open Go.RowKit Go.Proofs.Ytmgiolijjheodaa.X Go.Proofs.Ytmgiolijjheodaa.Link Go.Proofs.YtmgiolijjheodaaW.PrintWords Go.Proofs.YtmgiolijjheodaaW.PrintLast

theorem head_true : cofferlaw14_head.f 30 = some true := by decide +kernel
theorem head_any (k : Nat) (hk : 30 ≤ k) : cofferlaw14_head.f k = some true := at_rounds (fun k => cofferlaw14_head.mono k) hk head_true
theorem StackAsks : cofferlaw14_StackAsks.Pure := by
  intro l s m hw _ _
  obtain ⟨hl, hq⟩ := hw
  have ho' : ∀ x ∈ l, x.f4.length < 4398046511103 := fun x hx => by have := (hq x hx).2.2.2.2.1; omega
  have ho : okL l := fun x hx => by have := ho' x hx; omega
  refine ⟨l.length + 4398046512000, ?_⟩
  generalize hk : l.length + 4398046512000 = k
  have hll : l.length ≤ 1954687338211 := by omega
  obtain ⟨x, e, hx, g1, g2⟩ := get_both l s (by omega) ho k (by omega)
  obtain ⟨r, f, hr, hro, r1, r2⟩ := remove_both l s (by omega) ho k (by omega)
  have hs := List.length_filter_le (fun x : S25 => decide (x.f1 ≥ m)) l
  have hso : okL (l.filter (fun x => decide (x.f1 ≥ m))) := fun x hx => ho x (List.mem_filter.1 hx).1
  unfold cofferlaw14_StackAsks.f
  refine bind_of (head_any k (by omega)) ?_
  rw [if_pos rfl]
  refine bind_of g2 ?_
  refine bind_of r2 ?_
  refine bind_of (rsince_eq l m (by omega) ho k (by omega)) ?_
  refine bind_of (rrows_eq l (by omega) k (by omega)) ?_
  refine bind_of (lent_f l hll ho' k (by omega)) ?_
  have ht : (l ++ [mk1, mk2]).take ((l.length : Int) : Int).toNat = l := by rw [Int.toNat_natCast, List.take_left]
  rw [ht, if_pos (by omega), if_pos (by simp; omega)]
  refine bind_of g1 ?_
  refine bind_of r1 ?_
  refine bind_of (since_eq l m (by omega) ho k (by omega)) ?_
  refine bind_of (rows_f l (by omega)) ?_
  rw [if_pos rfl, if_pos rfl]
  refine bind_of (same_self x (by omega) k (by omega)) ?_
  rw [if_pos rfl]
  refine bind_of (sameList_self r (by omega) hro k (by omega)) ?_
  rw [if_pos rfl]
  refine bind_of (sameList_self _ (by omega) hso k (by omega)) ?_
  rw [if_pos rfl]
  refine bind_of (sameRows_self _ (by simp; omega) k (by simp; omega)) ?_
  rw [if_pos rfl]
  exact bind_of (stays_f l hll ho' k (by omega)) rfl
end Go.Proofs.Ytmgiolijjheodaa.Pure
