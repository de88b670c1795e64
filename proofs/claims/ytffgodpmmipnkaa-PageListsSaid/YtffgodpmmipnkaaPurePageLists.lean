/- PageLists: of a sorted list each Find, Put, Delete, and of every list Split, are the document's; the list stays, spare room too. -/
import Derived.Test.YtffgodpmmipnkaaStPageLists
import Derived.Test.YtffgodpmmipnkaaPgKept
import Derived.Test.YtffgodpmmipnkaaPgRs
namespace Go.Proofs.Ytffgodpmmipnkaa.Pure
set_option linter.unusedVariables false
set_option linter.unusedSimpArgs false
open Go.RowKit Go.Proofs.Ytffgodpmmipnkaa.X Go.Proofs.Ytffgodpmmipnkaa.Pg Go.Proofs.YtffgodpmmipnkaaW.PrintWords Go.Proofs.YtffgodpmmipnkaaW.PrintLast

def Small (l : List S37) : Prop := ∀ e ∈ l, sz e ≤ 300000000000000
theorem split_len (l : List S37) : (splitL l).1.length ≤ l.length ∧ (splitL l).2.length ≤ l.length := by
  have := congrArg List.length (split_app l)
  rw [List.length_append] at this; omega
theorem tail_true (l : List S37) (hs : Small l) (hl : l.length ≤ 200) (k : Nat) (hk : 30000 < k) :
    ((cofferlaw10_lent.f l).bind fun t475 => ((page_Split.f k t475).bind fun bt478 => ((cofferref10_Split.f k l).bind fun bt484 => ((cofferlaw10_same.f k bt478.1 bt484.1).bind fun t490 => (if t490 = true then ((cofferlaw10_same.f k bt478.2 bt484.2).bind fun t491 => (if t491 = true then ((cofferlaw10_keptS.f k t475 l).bind fun t492 => (if t492 = true then ((cofferlaw10_first.f k).bind fun t493 => (some t493)) else (none))) else (none))) else (none)))))) = some true := by
  have ht := tot_le 300000000000000 (by omega) l hs
  have hn := split_len l
  rw [lent_eq l (by omega), Option.bind_some, split_eq l (by omega) (by omega) k (by omega), Option.bind_some, rsplit_eq l (by omega) (by omega) k (by omega), Option.bind_some, same_self _ (by omega) k (by omega), Option.bind_some, if_pos rfl, same_self _ (by omega) k (by omega), Option.bind_some, if_pos rfl, kept_self l (by omega) k (by omega), Option.bind_some, if_pos rfl, first_true k (by omega)]
  rfl
theorem lists_j0 (raw : List S37) (hs : Small raw) (hl : raw.length < 4398046511104) (k : Nat) (hk : 30001 < k) : cofferlaw10_PageLists.j0 k raw false = some true := by
  obtain ⟨k, rfl⟩ : ∃ q, k = q + 1 := ⟨k - 1, by omega⟩
  simp only [cofferlaw10_PageLists.j0]
  rw [if_neg (by decide)]
  by_cases h : (raw.length : Int) > 200
  · rw [if_pos h, if_pos (by omega), Option.bind_some]
    exact tail_true (raw.take 200) (fun e he => hs e (List.mem_of_mem_take he)) (by rw [List.length_take]; omega) k (by omega)
  · rw [if_neg h]
    exact tail_true raw hs (by omega) k (by omega)
theorem PageLists : cofferlaw10_PageLists.Pure := by
  intro l0 a1 a2 hl0 h1 h2
  refine ⟨50000, ?_⟩
  have hL := sort_srt l0
  have nL := sort_len l0
  have sR : Small l0 := by
    intro e he
    have := hl0.2 e he
    unfold sz; omega
  have sL : Small (sortL l0) := fun e he => sR e (sort_mem _ _ he)
  unfold cofferlaw10_PageLists.f
  rw [sorted_law_eq l0 (by omega) 50000 (by omega), Option.bind_some]
  generalize sortL l0 = L at *
  have ht := tot_le 300000000000000 (by omega) L sL
  have hn := split_len L
  have pl := put_len L a1 a2
  have dl := del_len L a1
  have e0 := lists_j0 l0 sR (by omega) 50000 (by omega)
  rw [lent_eq L (by omega), Option.bind_some, find_eq hL a1 (by omega) 50000 (by omega), Option.bind_some, rfind_eq L a1 (by omega) 50000 (by omega), Option.bind_some, put_eq hL a1 a2 (by omega) 50000 (by omega), Option.bind_some, del_eq hL a1 (by omega) 50000 (by omega), Option.bind_some, rdel_eq L a1 (by omega) 50000 (by omega), Option.bind_some, split_eq L (by omega) (by omega) 50000 (by omega), Option.bind_some, rsplit_eq L (by omega) (by omega) 50000 (by omega), Option.bind_some]
  rw [rput_eq L a1 a2 (by omega) 50000 (by omega)]
  simp only [Option.bind_some]
  rw [same_self (putL L a1 a2) (by omega) 50000 (by omega), same_self (delL L a1) (by omega) 50000 (by omega), same_self (splitL L).1 (by omega) 50000 (by omega), same_self (splitL L).2 (by omega) 50000 (by omega), kept_self L (by omega) 50000 (by omega)]
  simp only [Option.bind_some, if_true, Bool.not_true, e0]
  cases isat L a1
  · simp
  · simp
end Go.Proofs.Ytffgodpmmipnkaa.Pure
