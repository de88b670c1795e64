/- StackPushes: every Push and Top of any list is the document's; what is handed in stays, spare room too. No condition beside the row's own. -/
import Derived.Test.YtmgiolijjheodaaStStackPushes
import Derived.Test.YtmgiolijjheodaaPushMath
import Derived.Test.YtmgiolijjheodaaX16
namespace Go.Proofs.Ytmgiolijjheodaa.Pure
set_option linter.unusedVariables false
set_option linter.unusedSimpArgs false
open Go.RowKit Go.Proofs.Ytmgiolijjheodaa.X Go.Proofs.Ytmgiolijjheodaa.Link Go.Proofs.YtmgiolijjheodaaW.PrintWords Go.Proofs.YtmgiolijjheodaaW.PrintLast

theorem head_true : cofferlaw14_head.f 30 = some true := by decide +kernel
theorem head_any (k : Nat) (hk : 30 ≤ k) : cofferlaw14_head.f k = some true := at_rounds (fun k => cofferlaw14_head.mono k) hk head_true
theorem StackPushes : cofferlaw14_StackPushes.Pure := by
  intro l v hw hv
  obtain ⟨hl, hq⟩ := hw
  have ho' : ∀ x ∈ l, x.f4.length < 4398046511103 := fun x hx => by have := (hq x hx).2.2.2.2.1; omega
  have ho : okL l := fun x hx => by have := ho' x hx; omega
  have hv' : v.f4.length < 4398046511103 := by have := hv.2.2.2.2.1; omega
  refine ⟨l.length + 4398046512000, ?_⟩
  generalize hk : l.length + 4398046512000 = k
  have hll : l.length ≤ 1954687338211 := by omega
  obtain ⟨m, e, hm, hmo, p1, p2⟩ := push_both l v hll ho (by omega) k (by omega)
  obtain ⟨x, f, hx, t1, t2⟩ := top_both l (by omega) ho
  have hov : ∀ x ∈ [v], x.f4.length < 4398046511103 := fun x hx => by rw [List.mem_singleton.1 hx]; exact hv'
  have hvv : (⟨v.f0, v.f1, v.f2, v.f3, v.f4⟩ : S25) = v := rfl
  unfold cofferlaw14_StackPushes.f
  refine bind_of (head_any k (by omega)) ?_
  rw [if_pos rfl]
  refine bind_of p2 ?_
  refine bind_of t2 ?_
  refine bind_of (lent_f l hll ho' k (by omega)) ?_
  refine bind_of (lent_f [v] (by simp) hov k (by simp; omega)) ?_
  have ht : (l ++ [mk1, mk2]).take ((l.length : Int) : Int).toNat = l := by rw [Int.toNat_natCast, List.take_left]
  have hr : rd_T25 ([v] ++ [mk1, mk2]) 0 = v := rfl
  rw [ht, hr, if_pos (by omega), if_pos (by simp; omega), if_pos (show (0 : Int) < (([v] ++ [mk1, mk2]).length : Int) by simp)]
  refine bind_of p1 ?_
  refine bind_of t1 ?_
  rw [if_pos rfl, if_pos rfl]
  refine bind_of (sameList_self m (by omega) hmo k (by omega)) ?_
  rw [if_pos rfl]
  refine bind_of (same_self x (by omega) k (by omega)) ?_
  rw [if_pos rfl]
  refine bind_of (stays_f l hll ho' k (by omega)) ?_
  rw [if_pos rfl]
  exact bind_of (stays_f [v] (by simp) hov k (by simp; omega)) rfl
end Go.Proofs.Ytmgiolijjheodaa.Pure
