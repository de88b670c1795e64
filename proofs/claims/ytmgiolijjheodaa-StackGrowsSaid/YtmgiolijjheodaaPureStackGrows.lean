/- StackGrows: a stack that grows by Pushes and shrinks by Removes is right at every step; Get tells each version that is in it and no other; Top the last one; a Push that is undone leaves it as it was. No condition beside the row's own. -/
import Derived.Test.YtmgiolijjheodaaStStackGrows
import Derived.Test.YtmgiolijjheodaaStackMath
import Derived.Test.YtmgiolijjheodaaX16
import Derived.Test.YtmgiolijjheodaaX7
import Derived.Test.YtmgiolijjheodaaX8
import Derived.Test.YtmgiolijjheodaaX41
import Derived.Test.YtmgiolijjheodaaX44
namespace Go.Proofs.Ytmgiolijjheodaa.Pure
set_option linter.unusedVariables false
set_option linter.unusedSimpArgs false
open Go.RowKit Go.Proofs.Ytmgiolijjheodaa.X Go.Proofs.Ytmgiolijjheodaa.Link Go.Proofs.YtmgiolijjheodaaW.PrintWords Go.Proofs.YtmgiolijjheodaaW.PrintLast

theorem head_true : cofferlaw14_head.f 30 = some true := by decide +kernel
theorem head_any (k : Nat) (hk : 30 ≤ k) : cofferlaw14_head.f k = some true := at_rounds (fun k => cofferlaw14_head.mono k) hk head_true
theorem okL_filter {l : List S25} (h : okL l) (f : S25 → Bool) : okL (l.filter f) := fun x hx => h x (List.mem_filter.1 hx).1
theorem fidx_all : ∀ (l : List S25) (i : Nat), fidx (fun _ => true) l i = l
  | [], _ => rfl
  | x :: l, i => by unfold fidx; rw [if_pos rfl, fidx_all l (i + 1)]
/-- A stack as it stands between two rounds. -/
structure Good (l : List S25) (n : Nat) : Prop where
  rt : Rt l
  ok : okL l
  len : l.length ≤ n
  top : ∀ x ∈ l, x.f1 ≤ 9223372036854775807
theorem push_eq (l : List S25) (v : S25) (n : Nat) (hn : n ≤ 100) (h : Good l n) (hv : v.f4.length < 4398046511104) (ht : v.f1 ≤ 9223372036854775807) (k : Nat) (hk : 200 ≤ k) :
    ∃ m e, stack_Push.f k l v.f0 v.f1 v.f2 v.f3 v.f4 = some (m, e) ∧ ((e = 0 ∧ m = l ++ [v] ∧ Good (l ++ [v]) (n + 1)) ∨ (e ≠ 0 ∧ m = [])) := by
  obtain ⟨k, rfl⟩ : ∃ q, k = q + 2 := ⟨k - 2, by omega⟩
  have hlen := h.len
  have hj1 : stack_Push.j1 (k + 1) l false v.f0 v.f1 v.f2 v.f3 v.f4 = some (l ++ [v], 0) := by
    rw [stack_Push.j1, if_neg (by decide)]
    refine bind_of (chosen_eq (fun _ => true) stack_always.f l (by omega) (fun i _ => rfl) h.ok k (by omega)) ?_
    rw [fidx_all]
    refine bind_of (own_eq v hv) ?_
    rw [if_pos (by omega)]
  have hj1t : stack_Push.j1 (k + 1) l true v.f0 v.f1 v.f2 v.f3 v.f4 = some ([], 74) := by rw [stack_Push.j1, if_pos rfl]
  have good (h1 : 1 ≤ v.f1) (h2 : ∀ x ∈ l, x.f1 < v.f1) (h3 : ∀ x ∈ l, x.f0 = v.f0) : Good (l ++ [v]) (n + 1) := by
    refine ⟨⟨?_, ?_, ?_⟩, ?_, by simp; omega, ?_⟩
    · intro x hx
      rcases List.mem_append.1 hx with hx | hx
      · exact h.rt.1 x hx
      · obtain rfl := List.mem_singleton.1 hx; exact h1
    · intro x hx y hy
      rcases List.mem_append.1 hx with hx | hx
      · rcases List.mem_append.1 hy with hy | hy
        · exact h.rt.2.1 x hx y hy
        · rw [List.mem_singleton.1 hy]; exact h3 x hx
      · rw [List.mem_singleton.1 hx]
        rcases List.mem_append.1 hy with hy | hy
        · exact (h3 y hy).symm
        · rw [List.mem_singleton.1 hy]
    · rw [List.pairwise_append]
      refine ⟨h.rt.2.2, List.pairwise_singleton _ _, fun x hx y hy => ?_⟩
      obtain rfl := List.mem_singleton.1 hy
      exact h2 x hx
    · intro x hx
      rcases List.mem_append.1 hx with hx | hx
      · exact h.ok x hx
      · obtain rfl := List.mem_singleton.1 hx; exact hv
    · intro x hx
      rcases List.mem_append.1 hx with hx | hx
      · exact h.top x hx
      · obtain rfl := List.mem_singleton.1 hx; exact ht
  unfold stack_Push.f
  by_cases h0 : l.length = 0
  · obtain rfl := List.eq_nil_of_length_eq_zero h0
    rw [if_neg (by simp), stack_Push.j0, if_neg (by decide)]
    by_cases h1 : v.f1 < 1
    · rw [if_pos h1, hj1t]; exact ⟨_, _, rfl, .inr ⟨by decide, rfl⟩⟩
    · rw [if_neg h1, if_neg (by simp), hj1]
      exact ⟨_, _, rfl, .inl ⟨rfl, rfl, good (by omega) (by simp) (by simp)⟩⟩
  · have hw : wrap64 ((l.length : Int) - 1) = ((l.length - 1 : Nat) : Int) := by unfold wrap64; omega
    rw [if_pos (by omega), hw, if_pos (by omega), if_pos (by omega), rd_at l _ (by omega), stack_Push.j0]
    have hlast := List.getElem_mem (show l.length - 1 < l.length by omega)
    by_cases hke : l[l.length - 1].f0 = v.f0
    · rw [if_neg (by rw [hke]; simp)]
      by_cases h1 : v.f1 < 1
      · rw [if_pos h1, hj1t]; exact ⟨_, _, rfl, .inr ⟨by decide, rfl⟩⟩
      · rw [if_neg h1, if_pos (by omega), hw, if_pos (by omega), if_pos (by omega), rd_at l _ (by omega)]
        by_cases h2 : v.f1 ≤ l[l.length - 1].f1
        · rw [show decide (v.f1 ≤ l[l.length - 1].f1) = true by simpa using h2, hj1t]; exact ⟨_, _, rfl, .inr ⟨by decide, rfl⟩⟩
        · rw [show decide (v.f1 ≤ l[l.length - 1].f1) = false by simpa using h2, hj1]
          refine ⟨_, _, rfl, .inl ⟨rfl, rfl, good (by omega) (fun x hx => ?_) (fun x hx => (h.rt.2.1 x hx _ hlast).trans hke)⟩⟩
          obtain ⟨i, hi, rfl⟩ := List.getElem_of_mem hx
          by_cases hil : i = l.length - 1
          · subst hil; omega
          · have := List.pairwise_iff_getElem.1 h.rt.2.2 i (l.length - 1) hi (by omega) (by omega); omega
    · rw [if_pos (by simp only [bne_iff_ne]; exact fun e => hke (toList_inj e))]
      exact ⟨_, _, rfl, .inr ⟨by decide, rfl⟩⟩
theorem get_some (l : List S25) (s : Int) (hl : l.length ≤ 1000) (ho : okL l) (h : ∃ x ∈ l, x.f1 = s) : ∃ (j : Nat) (hj : j < l.length), (l[j]).f1 = s ∧ stack_Get.f l s = some (l[j].f0, l[j].f1, l[j].f2, l[j].f3, l[j].f4, 0) := by
  obtain ⟨j, h1, _, h3, h4⟩ := pidx_some s l 0 h
  refine ⟨j, h3, h4, ?_⟩
  unfold stack_Get.f
  refine bind_of (v := (j : Int)) (by unfold stack_place.f; rw [if_pos (by omega), h1]) ?_
  rw [if_neg (by omega), if_pos (by omega), if_pos (by have : j - 0 < l.length := h3; omega), rd_at l j h3]
  refine bind_of (own_eq _ (ho _ (List.getElem_mem _))) rfl
theorem get_none (l : List S25) (s : Int) (hl : l.length ≤ 1000) (h : ¬ ∃ x ∈ l, x.f1 = s) : stack_Get.f l s = some ((⟨#[]⟩ : ByteArray), 0, false, (⟨#[]⟩ : ByteArray), ([] : List (S49)), 72) := by
  unfold stack_Get.f
  refine bind_of (v := (-1 : Int)) (by unfold stack_place.f; rw [if_pos (by omega), pidx_none s l 0 (fun y hy e => h ⟨y, hy, e⟩)]) ?_
  rw [if_pos (by omega)]
theorem at_dist {l : List S25} (h : l.Pairwise (fun a b => a.f1 < b.f1)) {i j : Nat} (hi : i < l.length) (hj : j < l.length) (e : l[i].f1 = l[j].f1) : i = j := by
  rcases Nat.lt_trichotomy i j with h1 | h1 | h1
  · have := List.pairwise_iff_getElem.1 h i j hi hj h1; omega
  · exact h1
  · have := List.pairwise_iff_getElem.1 h j i hj hi h1; omega
theorem told_l0 (l : List S25) (n : Nat) (hn : n ≤ 100) (h : Good l n) (d : Nat) : ∀ (k i : Nat), i + d = l.length → 2 * d + 4398046511200 < k → cofferlaw14_told.l0 k l (i : Int) = some true := by
  have hlen := h.len
  induction d with
  | zero =>
    intro k i hd hk
    obtain ⟨k, rfl⟩ : ∃ q, k = q + 1 := ⟨k - 1, by omega⟩
    rw [cofferlaw14_told.l0, if_neg (by omega)]
    unfold stack_Top.f
    by_cases h0 : l.length = 0
    · rw [if_pos (by omega)]
      refine bind_of (f := fun bt625 => _) rfl ?_
      rw [if_pos (by omega)]; rfl
    · have hw : wrap64 ((l.length : Int) - 1) = ((l.length - 1 : Nat) : Int) := by unfold wrap64; omega
      have hm := h.ok _ (List.getElem_mem (show l.length - 1 < l.length by omega))
      rw [if_neg (by omega), hw, if_pos (by omega), if_pos (by omega), rd_at l _ (by omega)]
      by_cases hf : l[l.length - 1].f2 = true
      · rw [if_pos hf]
        refine bind_of (f := fun bt625 => _) rfl ?_
        rw [if_neg (by omega), if_pos (by omega), if_pos (by omega), if_pos hf, if_pos rfl]
        exact bind_of (like_self (⟨(⟨#[]⟩ : ByteArray), 0, false, (⟨#[]⟩ : ByteArray), []⟩ : S25) (by simp) k (by simp; omega)) rfl
      · rw [if_neg hf]
        refine bind_of (v := (l[l.length - 1].f0, l[l.length - 1].f1, l[l.length - 1].f2, l[l.length - 1].f3, l[l.length - 1].f4, 0)) (bind_of (own_eq _ hm) rfl) ?_
        rw [if_neg (by omega), if_pos (by omega), if_pos (by omega), if_neg hf, if_pos rfl]
        exact bind_of (like_self l[l.length - 1] (by omega) k (by omega)) rfl
  | succ d ih =>
    intro k i hd hk
    obtain ⟨k, rfl⟩ : ∃ q, k = q + 2 := ⟨k - 2, by omega⟩
    have hlt : i < l.length := by omega
    have hw : wrap64 ((i : Int) + 1) = ((i + 1 : Nat) : Int) := by unfold wrap64; omega
    have hm := h.ok _ (List.getElem_mem hlt)
    have h1 := h.rt.1 _ (List.getElem_mem hlt)
    have h2 := h.top _ (List.getElem_mem hlt)
    have ih' := ih k (i + 1) (by omega) (by omega)
    obtain ⟨j, hj, hje, hg⟩ := get_some l l[i].f1 (by omega) h.ok ⟨_, List.getElem_mem hlt, rfl⟩
    obtain rfl := at_dist h.rt.2.2 hj hlt hje
    rw [cofferlaw14_told.l0, if_pos (by omega), if_pos (by omega), rd_at l j hj]
    refine bind_of hg ?_
    rw [if_pos rfl]
    refine bind_of (like_self l[j] (by omega) (k + 1) (by omega)) ?_
    show cofferlaw14_told.j1 (k + 1) l (j : Int) false = some true
    rw [cofferlaw14_told.j1, if_neg (by decide), if_pos (by omega), if_pos (by omega), rd_at l j hj, hw]
    by_cases he : ∃ x ∈ l, x.f1 = wrap64 (l[j].f1 + 1)
    · obtain ⟨t, ht, hte, hg2⟩ := get_some l _ (by omega) h.ok he
      have h3 := h.rt.1 _ (List.getElem_mem ht)
      have hwv : wrap64 (l[j].f1 + 1) = l[j].f1 + 1 := by
        rw [hte] at h3
        unfold wrap64 at h3 ⊢; omega
      have hjt : j < t := by
        rcases Nat.lt_trichotomy j t with h4 | h4 | h4
        · exact h4
        · subst h4; omega
        · have := List.pairwise_iff_getElem.1 h.rt.2.2 t j ht hj h4; omega
      have hnext : l[j + 1].f1 = wrap64 (l[j].f1 + 1) := by
        have h5 := List.pairwise_iff_getElem.1 h.rt.2.2 j (j + 1) hj (by omega) (by omega)
        by_cases h6 : j + 1 = t
        · subst h6; exact hte
        · have := List.pairwise_iff_getElem.1 h.rt.2.2 (j + 1) t (by omega) ht (by omega); omega
      refine bind_of hg2 ?_
      rw [if_pos (by omega), if_pos (by omega), if_pos rfl, rd_at l (j + 1) (by omega), if_pos hnext]
      exact ih'
    · refine bind_of (get_none l _ (by omega) he) ?_
      by_cases h7 : j + 1 < l.length
      · rw [if_pos (by omega), if_pos (by omega), if_neg (by decide), rd_at l (j + 1) h7, if_neg (fun e => he ⟨_, List.getElem_mem h7, e⟩)]
        exact ih'
      · rw [if_neg (by omega), if_neg (by decide)]
        exact ih'
theorem filter_len (s : Int) : ∀ l : List S25, Dist l → (∃ x ∈ l, x.f1 = s) → (l.filter (fun x => x.f1 != s)).length + 1 = l.length
  | [], _, h => by obtain ⟨x, hx, _⟩ := h; cases hx
  | x :: l, hd, h => by
    unfold Dist at hd
    rw [List.pairwise_cons] at hd
    by_cases hx : x.f1 = s
    · rw [List.filter_cons, if_neg (by simpa using hx), List.filter_eq_self.2 fun y hy => ?_]
      · rfl
      · have := hd.1 y hy
        simp only [bne_iff_ne]; intro e; exact this (hx.trans e.symm)
    · rw [List.filter_cons, if_pos (by simpa using hx)]
      obtain ⟨y, hy, hs⟩ := h
      rcases List.mem_cons.1 hy with rfl | hy
      · exact absurd hs hx
      · have := filter_len s l hd.2 ⟨y, hy, hs⟩
        simp; omega
theorem undo {l : List S25} {v : S25} (h : Dist (l ++ [v])) : (l ++ [v]).filter (fun x => x.f1 != v.f1) = l := by
  unfold Dist at h
  rw [List.pairwise_append] at h
  rw [List.filter_append, List.filter_eq_self.2 fun y hy => ?_]
  · simp
  · have := h.2.2 y hy v (List.mem_singleton.2 rfl)
    simpa using this
section
variable (ws : List S25) (rs : List Int) (hws : ws.length ≤ 1954687338267) (how : okL ws) (htw : ∀ x ∈ ws, x.f1 ≤ 9223372036854775807)
include hws how htw
theorem round (n : Nat) (hn : n ≤ 60) (K : Nat) (hK : 4398046512000 ≤ K) (i : Nat) (hi : i < ws.length)
    (next : ∀ l, Good l (n + 1) → cofferlaw14_StackGrows.l0 K ws rs l ((i + 1 : Nat) : Int) = some true) (l : List S25) (h : Good l n) :
    cofferlaw14_StackGrows.j1 (K + 4) ws rs l (i : Int) true = some true := by
  have hlen := h.len
  have hw : wrap64 ((i : Int) + 1) = ((i + 1 : Nat) : Int) := by unfold wrap64; omega
  have j4 : ∀ l, Good l (n + 1) → cofferlaw14_StackGrows.j4 (K + 1) ws rs l (i : Int) = some true := by
    intro l h
    have hlen := h.len
    rw [cofferlaw14_StackGrows.j4]
    refine bind_of (right_true l h.rt (by omega) K (by omega)) ?_
    rw [if_pos rfl]
    refine bind_of (told_l0 l (n + 1) (by omega) h l.length K 0 (by omega) (by omega)) ?_
    rw [if_pos rfl, hw]
    exact next l h
  have j2 : ∀ l, Good l (n + 1) → cofferlaw14_StackGrows.j2 (K + 3) ws rs l (i : Int) = some true := by
    intro l h
    have hlen := h.len
    have hj4 := j4 l h
    have hj4' : cofferlaw14_StackGrows.j4 (K + 2) ws rs l (i : Int) = some true := (cofferlaw14_StackGrows.mono_l (K + 1)).2.2.2.1 ws rs l i _ hj4
    rw [cofferlaw14_StackGrows.j2]
    by_cases h1 : i < rs.length
    · rw [if_pos (by omega), if_pos (by omega)]
      generalize hs : rd rs (i : Int) = s
      have hr := remove_eq l s h.rt.dist (by omega) h.ok (K + 2) (by omega)
      by_cases he : ∃ x ∈ l, x.f1 = s
      · obtain ⟨j, hj, hje, hg⟩ := get_some l s (by omega) h.ok he
        have hf := filter_len s l h.rt.dist he
        have hg2 : Good (l.filter (fun x => x.f1 != s)) (n + 1) := ⟨h.rt.filter _, okL_filter h.ok _, by omega, fun x hx => h.top x (List.mem_filter.1 hx).1⟩
        refine bind_of (hr.1 he) ?_
        refine bind_of hg ?_
        rw [if_pos rfl, if_pos rfl]
        show cofferlaw14_StackGrows.j3 (K + 2) ws rs l (i : Int) (l.filter (fun x => x.f1 != s)) 0 false = some true
        have hn2 : ¬ ∃ x ∈ l.filter (fun x => x.f1 != s), x.f1 = s := by
          rintro ⟨x, hx, e⟩
          have := (List.mem_filter.1 hx).2
          rw [e] at this; simp at this
        have hwl : wrap64 ((l.length : Int) - 1) = ((l.filter (fun x => x.f1 != s)).length : Int) := by unfold wrap64; omega
        rw [cofferlaw14_StackGrows.j3, if_neg (by decide), if_pos rfl, if_pos (by omega), if_pos (by omega)]
        rw [hs]
        refine bind_of ((remove_eq _ s hg2.rt.dist (by omega) hg2.ok (K + 1) (by omega)).2 hn2) ?_
        rw [if_pos rfl, hwl, if_pos rfl]
        exact j4 _ hg2
      · refine bind_of (hr.2 he) ?_
        refine bind_of (get_none l s (by omega) he) ?_
        rw [if_neg (by decide), if_neg (by decide)]
        show cofferlaw14_StackGrows.j3 (K + 2) ws rs l (i : Int) [] 72 false = some true
        rw [cofferlaw14_StackGrows.j3, if_neg (by decide), if_neg (by decide)]
        exact hj4
    · rw [if_neg (by omega)]
      exact hj4'
  have hm := how _ (List.getElem_mem hi)
  have ht := htw _ (List.getElem_mem hi)
  obtain ⟨m, e, hp, hc⟩ := push_eq l ws[i] n (by omega) h hm ht (K + 3) (by omega)
  rw [cofferlaw14_StackGrows.j1, if_pos rfl, if_pos (by omega), if_pos (by omega), rd_at ws i hi]
  refine bind_of (lown_eq ws[i] hm) ?_
  refine bind_of hp ?_
  rcases hc with ⟨rfl, rfl, hg⟩ | ⟨he, rfl⟩
  · have hgl := hg.len
    rw [if_pos rfl]
    refine bind_of ((remove_eq _ ws[i].f1 hg.rt.dist (by omega) hg.ok (K + 3) (by omega)).1 ⟨ws[i], by simp, rfl⟩) ?_
    rw [if_pos rfl, undo hg.rt.dist]
    refine bind_of (alike_self l (by omega) h.ok (K + 3) (by omega)) ?_
    have hwl : wrap64 ((l.length : Int) + 1) = ((l ++ [ws[i]]).length : Int) := by rw [List.length_append]; simp; unfold wrap64; omega
    have hx : rd_T25 (l ++ [ws[i]]) (l.length : Int) = ws[i] := by rw [rd_at _ _ (by simp)]; simp
    rw [if_pos rfl, hwl, if_pos rfl, if_pos (by omega), if_pos (by rw [List.length_append]; simp only [List.length_singleton]; omega), Int.toNat_natCast, List.take_left]
    refine bind_of (alike_self l (by omega) h.ok (K + 3) (by omega)) ?_
    rw [if_pos rfl, if_pos (by simp; omega), hx]
    refine bind_of (like_self ws[i] (by omega) (K + 3) (by omega)) ?_
    rw [if_pos rfl]
    exact j2 _ hg
  · show (if e = 0 then _ else if (([] : List S25).length : Int) = 0 then _ else _) = _
    rw [if_neg he, if_pos (by simp)]
    exact j2 l ⟨h.rt, h.ok, by omega, h.top⟩
theorem l0_true (d : Nat) : ∀ (i K : Nat), i + d = 60 → 4398046512000 + 5 * d ≤ K → ∀ l, Good l i → cofferlaw14_StackGrows.l0 (K + 2) ws rs l (i : Int) = some true := by
  induction d with
  | zero =>
    intro i K h hK l hg
    rw [cofferlaw14_StackGrows.l0]
    have e : cofferlaw14_StackGrows.j1 (K + 1) ws rs l (i : Int) false = some true := by rw [cofferlaw14_StackGrows.j1, if_neg (by decide)]
    by_cases hi : i < ws.length
    · rw [if_pos (by omega), show decide ((i : Int) < 60) = false by simp; omega]; exact e
    · rw [if_neg (by omega)]; exact e
  | succ d ih =>
    intro i K h hK l hg
    rw [cofferlaw14_StackGrows.l0]
    by_cases hi : i < ws.length
    · rw [if_pos (by omega), show decide ((i : Int) < 60) = true by simp; omega]
      obtain ⟨K, rfl⟩ : ∃ q, K = q + 5 := ⟨K - 5, by omega⟩
      exact round ws rs hws how htw i (by omega) (K + 2) (by omega) i hi (fun l hl => ih (i + 1) K (by omega) (by omega) l hl) l hg
    · rw [if_neg (by omega), cofferlaw14_StackGrows.j1, if_neg (by decide)]
end
theorem StackGrows : cofferlaw14_StackGrows.Pure := by
  intro ws rs hw hr
  obtain ⟨hl, hq⟩ := hw
  have ho : okL ws := fun x hx => by have := (hq x hx).2.2.2.2.1; omega
  have ht : ∀ x ∈ ws, x.f1 ≤ 9223372036854775807 := fun x hx => by
    have h := (hq x hx).2.1
    simp [Lit.wf, Go.IntKind.min, Go.IntKind.max, Go.IntKind.bits, Go.IntKind.signed] at h
    omega
  have hrs := hr.1
  refine ⟨4398046512302, ?_⟩
  unfold cofferlaw14_StackGrows.f
  refine bind_of (head_any _ (by omega)) ?_
  rw [if_pos rfl]
  exact l0_true ws rs (by omega) ho ht 60 0 4398046512300 rfl (by omega) [] ⟨⟨by simp, by simp, List.Pairwise.nil⟩, by simp [okL], by simp, by simp⟩
end Go.Proofs.Ytmgiolijjheodaa.Pure
