/- NamesLess: of metadata that is right each part is; turned about it isn't, if it has more than one pair; with any pair there twice neither. No condition beside the row's own. -/
import Derived.Test.YtgijgemgghphbaaStNamesLess
import Derived.Test.YtgijgemgghphbaaX6
import Derived.Test.YtgijgemgghphbaaX23
import Derived.Test.YtgijgemgghphbaaNamesLink
namespace Go.Proofs.Ytgijgemgghphbaa.Pure
set_option linter.unusedVariables false
set_option linter.unusedSimpArgs false
open Go.RowKit Go.Proofs.Ytgijgemgghphbaa.X Go.Proofs.YtgijgemgghphbaaW.PrintWords Go.Proofs.YtgijgemgghphbaaW.PrintLast
open Go.Proofs.Ytgijgemgghphbaa Go.Proofs.Ytgijgemgghphbaa.Link

theorem less_self (l : List UInt8) : Op.bytesLess l l ≠ true := by rw [Z.less_irrefl]; simp
theorem sub_ok {s l : List S31} (h : metaOk l = true) (hs : s.Sublist l) : metaOk s = true := by
  rw [metaOk_iff] at h ⊢
  exact ⟨Nat.le_trans hs.length_le h.1, fun p hp => h.2.1 p (hs.subset hp), h.2.2.sublist hs⟩
theorem turned_ok {l : List S31} (h : metaOk l = true) : metaOk l.reverse = decide ((l.length : Int) < 2) := by
  rw [Bool.eq_iff_iff, decide_eq_true_eq, metaOk_iff]
  rw [metaOk_iff] at h
  constructor
  · rintro ⟨_, _, h3⟩
    rcases l with _ | ⟨a, _ | ⟨b, l⟩⟩
    · simp
    · simp
    · exfalso
      have h4 := h.2.2
      rw [List.pairwise_reverse] at h3
      have e1 : Op.bytesLess a.f0.toList b.f0.toList = true := (List.pairwise_cons.1 h4).1 b (by simp)
      have e2 : Op.bytesLess b.f0.toList a.f0.toList = true := (List.pairwise_cons.1 h3).1 b (by simp)
      exact less_self _ (less_trans _ _ _ e1 e2)
  · intro hl
    refine ⟨by simpa using h.1, fun p hp => h.2.1 p (by simpa using hp), ?_⟩
    rcases l with _ | ⟨a, _ | ⟨b, l⟩⟩
    · simp
    · simp
    · simp at hl; omega
theorem twice_bad (l : List S31) (i : Nat) (hi : i < l.length) : metaOk (l.take (i + 1) ++ l.drop i) = false := by
  rw [Bool.eq_false_iff, Ne, metaOk_iff]
  rintro ⟨_, _, h⟩
  rw [List.pairwise_append] at h
  refine less_self _ (h.2.2 l[i] ?_ l[i] ?_)
  · rw [List.take_succ_eq_append_getElem hi]; exact List.mem_append_right _ (List.mem_singleton.2 rfl)
  · rw [List.drop_eq_getElem_cons hi]; exact List.mem_cons_self
/-- What stands behind the first loop. -/
def tail (k : Nat) (l s t : List S31) : Option Bool :=
  if (l.length : Int) > 8 then (cofferlaw12_NamesLess.j1 k l true) else ((names_Meta.f k s).bind fun t235 => (if t235 = 0 then ((names_Meta.f k t).bind fun t236 => (cofferlaw12_NamesLess.j1 k l ((t236 == 0) != (decide ((l.length : Int) < 2))))) else (cofferlaw12_NamesLess.j1 k l true)))
theorem loop0 (l : List S31) (a : Int) (hl : l.length ≤ 8) (k : Nat) (d : Nat) : ∀ (i : Nat) (x5 x6 : List S31), i + d = l.length → x5.length ≤ i → x6.length = i →
    ∃ S : List S31, S.Sublist (l.drop i) ∧ cofferlaw12_NamesLess.l0 (k + d + 1) l a x5 x6 (i : Int) = tail k l (x5 ++ S) (x6 ++ (l.take d).reverse) := by
  induction d with
  | zero =>
    intro i x5 x6 h h5 h6
    refine ⟨[], List.nil_sublist _, ?_⟩
    obtain ⟨m, hm⟩ : ∃ m, k + 0 = m := ⟨_, rfl⟩
    simp only [cofferlaw12_NamesLess.l0]
    rw [if_neg (by omega)]
    simp [tail]
  | succ d ih =>
    intro i x5 x6 h h5 h6
    have hlt : i < l.length := by omega
    have hd : d < l.length := by omega
    obtain ⟨m, hm⟩ : ∃ m, k + d + 1 = m := ⟨_, rfl⟩
    have hw : wrap64 ((i : Int) + 1) = ((i + 1 : Nat) : Int) := by unfold wrap64; omega
    have hr : wrap64 (wrap64 ((l.length : Int) - 1) - (i : Int)) = ((d : Nat) : Int) := by unfold wrap64; omega
    have ht : (0 : Int) ≤ Int.tmod (i : Int) 31 := Int.tmod_nonneg _ (by omega)
    have hdrop : l.drop i = l[i] :: l.drop (i + 1) := List.drop_eq_getElem_cons hlt
    have htake : (l.take (d + 1)).reverse = l[d] :: (l.take d).reverse := by rw [List.take_succ_eq_append_getElem hd]; simp
    show ∃ S : List S31, S.Sublist (l.drop i) ∧ cofferlaw12_NamesLess.l0 (k + d + 1 + 1) l a x5 x6 (i : Int) = _
    rw [hm]
    simp only [cofferlaw12_NamesLess.l0]
    rw [if_pos (by omega), if_pos ht, hr, hw]
    by_cases hb : (Go.bits .and .i64 (shr .i64 a (Int.tmod (i : Int) 31)) 1) = 0
    · rw [if_pos hb, if_pos (by omega), if_pos (by omega), if_pos (by omega), if_pos (by omega), if_pos (by omega), rd_at l i hlt, rd_at l d hd, ← hm]
      obtain ⟨S, hS, he⟩ := ih (i + 1) (x5 ++ [l[i]]) (x6 ++ [l[d]]) (by omega) (by simp; omega) (by simp; omega)
      refine ⟨l[i] :: S, by rw [hdrop]; exact hS.cons_cons _, ?_⟩
      refine he.trans ?_
      rw [htake]; simp
    · rw [if_neg hb, if_pos (by omega), if_pos (by omega), if_pos (by omega), rd_at l d hd, ← hm]
      obtain ⟨S, hS, he⟩ := ih (i + 1) x5 (x6 ++ [l[d]]) (by omega) (by omega) (by simp; omega)
      refine ⟨S, by rw [hdrop]; exact hS.cons _, ?_⟩
      refine he.trans ?_
      rw [htake]; simp
theorem loop1 (l : List S31) (hl : l.length ≤ 8) (d : Nat) : ∀ (k i : Nat), i + d = l.length → d + l.length + 2 < k → cofferlaw12_NamesLess.l1 k l (i : Int) = some true := by
  induction d with
  | zero =>
    intro k i h hk
    obtain ⟨k, rfl⟩ : ∃ q, k = q + 1 := ⟨k - 1, by omega⟩
    simp only [cofferlaw12_NamesLess.l1]
    rw [if_neg (by omega)]
  | succ d ih =>
    intro k i h hk
    obtain ⟨k, rfl⟩ : ∃ q, k = q + 1 := ⟨k - 1, by omega⟩
    have hlt : i < l.length := by omega
    have hw : wrap64 ((i : Int) + 1) = ((i + 1 : Nat) : Int) := by unfold wrap64; omega
    have hlen : (l.take (i + 1) ++ l.drop i).length = l.length + 1 := by simp; omega
    have hmeta := meta_eq (l.take (i + 1) ++ l.drop i) (by omega) k (by omega)
    rw [twice_bad l i hlt] at hmeta
    simp only [cofferlaw12_NamesLess.l1]
    rw [if_pos (by omega), hw]
    simp only [Option.bind_some, List.nil_append, Int.toNat_natCast]
    rw [if_pos (by omega), if_pos (by omega), if_pos (by simp; omega), if_pos (by omega), if_pos (by omega), if_pos (by simp; omega), hmeta]
    simp only [Option.bind_some, Bool.false_eq_true, if_false, if_true]
    exact ih k (i + 1) (by omega) (by omega)
theorem NamesLess : cofferlaw12_NamesLess.Pure := by
  rintro l a ⟨hl, _⟩ _
  refine ⟨l.length + 50 + l.length + 1, ?_⟩
  unfold cofferlaw12_NamesLess.f
  rw [first_more _ (by omega), meta_eq l (by omega) _ (by omega)]
  simp only [Option.bind_some, if_true]
  by_cases hok : metaOk l = true
  · rw [if_pos hok, if_pos rfl]
    have h8 : l.length ≤ 8 := ((metaOk_iff l).1 hok).1
    obtain ⟨S, hS, he⟩ := loop0 l a h8 (l.length + 50) l.length 0 [] [] (by omega) (by simp) rfl
    refine he.trans ?_
    have hS' : metaOk S = true := sub_ok hok (by simpa using hS)
    have hsl : S.length ≤ l.length := by simpa using hS.length_le
    simp only [tail, List.nil_append, List.take_length]
    rw [if_neg (by omega), meta_eq S (by omega) _ (by omega), hS']
    simp only [Option.bind_some, if_true]
    rw [meta_eq l.reverse (by rw [List.length_reverse]; omega) _ (by rw [List.length_reverse]; omega), turned_ok hok]
    simp only [Option.bind_some]
    have hz : ((if decide ((l.length : Int) < 2) = true then (0 : Int) else 62) == 0) = decide ((l.length : Int) < 2) := by
      by_cases hh : (l.length : Int) < 2 <;> simp [hh]
    rw [hz]
    obtain ⟨m, hm⟩ : ∃ m, l.length + 49 = m := ⟨_, rfl⟩
    show cofferlaw12_NamesLess.j1 (l.length + 49 + 1) l _ = _
    rw [hm]
    simp only [cofferlaw12_NamesLess.j1]
    rw [bne_self_eq_false, if_neg (by simp)]
    exact loop1 l h8 l.length m 0 (by omega) (by omega)
  · rw [if_neg hok, if_neg (by decide)]
end Go.Proofs.Ytgijgemgghphbaa.Pure
