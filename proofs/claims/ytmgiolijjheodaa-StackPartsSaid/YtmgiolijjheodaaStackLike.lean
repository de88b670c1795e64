/- like, alike, right, own of the law: the same version, the same list, a right stack. -/
import Derived.Test.YtmgiolijjheodaaStackMath
import Derived.Test.YtmgiolijjheodaaX27
import Derived.Test.YtmgiolijjheodaaX29
import Derived.Test.YtmgiolijjheodaaX30
import Derived.Test.YtmgiolijjheodaaX31
namespace Go.Proofs.Ytmgiolijjheodaa.Link
set_option linter.unusedVariables false
set_option linter.unusedSimpArgs false
open Go.RowKit Go.Proofs.Ytmgiolijjheodaa.X Go.Proofs.YtmgiolijjheodaaW.PrintWords Go.Proofs.YtmgiolijjheodaaW.PrintLast

theorem lown_eq (x : S25) (h : x.f4.length < 4398046511104) : cofferlaw14_own.f x.f0 x.f1 x.f2 x.f3 x.f4 = some (x.f0, x.f1, x.f2, x.f3, x.f4) := by
  unfold cofferlaw14_own.f
  refine bind_of (f := fun y325 => _) rfl ?_
  rw [if_pos (by simpa using h)]; rfl
/-! ### the same version, the same list -/
theorem like_l0 (a : ByteArray) (q : Int) (m : Bool) (d : ByteArray) (l : List S49) (a' : ByteArray) (q' : Int) (m' : Bool) (d' : ByteArray) (l' : List S49) (hl : l.length ≤ 140737488351232) (he : l.length = l'.length) (j : Nat) : ∀ (k i : Nat), i + j = l.length → j < k →
    ∃ b, cofferlaw14_like.l0 k (i : Int) a q m d l a' q' m' d' l' = some b ∧ (b = true ↔ l.drop i = l'.drop i) := by
  induction j with
  | zero =>
    intro k i h hk
    obtain ⟨k, rfl⟩ : ∃ q, k = q + 1 := ⟨k - 1, by omega⟩
    simp only [cofferlaw14_like.l0]
    rw [if_neg (by omega)]
    exact ⟨true, rfl, by simp; rw [List.drop_of_length_le (by omega), List.drop_of_length_le (by omega)]⟩
  | succ j ih =>
    intro k i h hk
    obtain ⟨k, rfl⟩ : ∃ q, k = q + 1 := ⟨k - 1, by omega⟩
    have hlt : i < l.length := by omega
    have hw : wrap64 ((i : Int) + 1) = ((i + 1 : Nat) : Int) := by unfold wrap64; omega
    obtain ⟨b, hb, hi⟩ := ih k (i + 1) (by omega) (by omega)
    simp only [cofferlaw14_like.l0]
    rw [if_pos (by omega), if_pos (by omega), if_pos (by omega), hw, hb, rd49_at l i hlt, rd49_at l' i (by omega), List.drop_eq_getElem_cons hlt, List.drop_eq_getElem_cons (by omega : i < l'.length)]
    by_cases h1 : l[i] = l'[i]
    · rw [if_neg (by rw [h1]; simp)]
      exact ⟨b, rfl, by rw [hi, h1]; simp only [List.cons.injEq, true_and]⟩
    · rw [if_pos]
      · exact ⟨false, rfl, by simp only [List.cons.injEq, h1, false_and, Bool.false_eq_true]⟩
      · simp only [Bool.or_eq_true, Bool.not_eq_true', beq_eq_false_iff_ne]
        by_cases h2 : l[i].f0.toList = l'[i].f0.toList
        · right
          intro h3
          apply h1
          have e0 := toList_inj h2
          have e1 := toList_inj h3
          generalize l[i] = u at *
          generalize l'[i] = v at *
          cases u; cases v; simp only at e0 e1; rw [e0, e1]
        · exact .inl h2
theorem like_eq (x y : S25) (hl : x.f4.length ≤ 140737488351232) (k : Nat) (hk : x.f4.length + 2 < k) :
    ∃ b, cofferlaw14_like.f k x.f0 x.f1 x.f2 x.f3 x.f4 y.f0 y.f1 y.f2 y.f3 y.f4 = some b ∧ (b = true ↔ x = y) := by
  obtain ⟨a, q, m, d, l⟩ := x
  obtain ⟨a', q', m', d', l'⟩ := y
  simp only at hl hk ⊢
  obtain ⟨k, rfl⟩ : ∃ q, k = q + 1 := ⟨k - 1, by omega⟩
  have hf : cofferlaw14_like.j0 (k + 1) true a q m d l a' q' m' d' l' = some false := by simp [cofferlaw14_like.j0]
  have ht : ∃ b, cofferlaw14_like.j0 (k + 1) ((l.length : Int) != (l'.length : Int)) a q m d l a' q' m' d' l' = some b ∧ (b = true ↔ l = l') := by
    by_cases he : l.length = l'.length
    · have e : ((l.length : Int) != (l'.length : Int)) = false := by simp [he]
      obtain ⟨b, hb, hi⟩ := like_l0 a q m d l a' q' m' d' l' hl he l.length k 0 (by omega) (by omega)
      rw [e]
      simp only [cofferlaw14_like.j0]
      rw [if_neg (by decide)]
      exact ⟨b, hb, by simpa using hi⟩
    · have e : ((l.length : Int) != (l'.length : Int)) = true := by simp; omega
      rw [e]
      exact ⟨false, hf, by simp; intro h; rw [h] at he; exact he rfl⟩
  obtain ⟨b, hb, hi⟩ := ht
  unfold cofferlaw14_like.f
  by_cases h1 : a = a'
  · rw [if_pos (by rw [h1])]
    by_cases h2 : q = q'
    · rw [if_pos h2]
      by_cases h4 : d = d'
      · cases m <;> cases m' <;> simp only [Bool.false_eq_true, if_true, if_false] <;>
          first | (rw [if_pos (by rw [h4])]; exact ⟨b, hb, by rw [hi]; simp [h1, h2, h4]⟩) | exact ⟨false, hf, by simp⟩
      · have h4' : ¬ d.toList = d'.toList := fun e => h4 (toList_inj e)
        cases m <;> cases m' <;> simp only [Bool.false_eq_true, if_true, if_false] <;>
          first | (rw [if_neg h4']; exact ⟨false, hf, by simp [h4]⟩) | exact ⟨false, hf, by simp⟩
    · rw [if_neg h2]; exact ⟨false, hf, by simp [h2]⟩
  · rw [if_neg (fun e => h1 (toList_inj e))]; exact ⟨false, hf, by simp [h1]⟩
theorem like_self (x : S25) (hl : x.f4.length ≤ 140737488351232) (k : Nat) (hk : x.f4.length + 2 < k) : cofferlaw14_like.f k x.f0 x.f1 x.f2 x.f3 x.f4 x.f0 x.f1 x.f2 x.f3 x.f4 = some true := by
  obtain ⟨b, hb, hi⟩ := like_eq x x hl k hk
  rw [hb, hi.2 rfl]
theorem alike_l0 (l : List S25) (hl : l.length ≤ 1954687338267) (hk : okL l) (d : Nat) : ∀ (k i : Nat), i + d = l.length → d + 4398046511110 < k → cofferlaw14_alike.l0 k l l (i : Int) = some true := by
  induction d with
  | zero =>
    intro k i h hk'
    obtain ⟨k, rfl⟩ : ∃ q, k = q + 1 := ⟨k - 1, by omega⟩
    simp only [cofferlaw14_alike.l0]
    rw [if_neg (by omega)]
  | succ d ih =>
    intro k i h hk'
    obtain ⟨k, rfl⟩ : ∃ q, k = q + 1 := ⟨k - 1, by omega⟩
    have hlt : i < l.length := by omega
    have hw : wrap64 ((i : Int) + 1) = ((i + 1 : Nat) : Int) := by unfold wrap64; omega
    have ho := hk _ (List.getElem_mem hlt)
    simp only [cofferlaw14_alike.l0]
    rw [if_pos (by omega), if_pos (by omega), if_pos (by omega), rd_at l i hlt, hw]
    refine bind_of (like_self l[i] (by omega) k (by omega)) ?_
    rw [if_pos rfl]
    exact ih k (i + 1) (by omega) (by omega)
theorem alike_self (l : List S25) (hl : l.length ≤ 1954687338267) (hk : okL l) (k : Nat) (hk' : l.length + 4398046511110 < k) : cofferlaw14_alike.f k l l = some true := by
  unfold cofferlaw14_alike.f
  rw [if_pos rfl]
  exact alike_l0 l hl hk l.length k 0 (by omega) (by omega)
/-! ### right -/
/-- A right stack. -/
def Rt (l : List S25) : Prop := (∀ x ∈ l, 1 ≤ x.f1) ∧ (∀ x ∈ l, ∀ y ∈ l, x.f0 = y.f0) ∧ l.Pairwise (fun a b => a.f1 < b.f1)
theorem Rt.dist {l : List S25} (h : Rt l) : Dist l := h.2.2.imp fun h => by omega
theorem Rt.filter {l : List S25} (h : Rt l) (f : S25 → Bool) : Rt (l.filter f) :=
  ⟨fun x hx => h.1 x (List.mem_filter.1 hx).1, fun x hx y hy => h.2.1 x (List.mem_filter.1 hx).1 y (List.mem_filter.1 hy).1, h.2.2.filter f⟩
theorem right_l0 (l : List S25) (h : Rt l) (hl : l.length ≤ 1954687338267) (d : Nat) : ∀ (k i : Nat), i + d = l.length → d < k → cofferlaw14_right.l0 k l (i : Int) = some true := by
  induction d with
  | zero =>
    intro k i h hk'
    obtain ⟨k, rfl⟩ : ∃ q, k = q + 1 := ⟨k - 1, by omega⟩
    simp only [cofferlaw14_right.l0]
    rw [if_neg (by omega)]
  | succ d ih =>
    intro k i hd hk'
    obtain ⟨k, rfl⟩ : ∃ q, k = q + 1 := ⟨k - 1, by omega⟩
    have hlt : i < l.length := by omega
    have hw : wrap64 ((i : Int) + 1) = ((i + 1 : Nat) : Int) := by unfold wrap64; omega
    have hw2 : wrap64 ((i : Int) - 1) = (i : Int) - 1 := by unfold wrap64; omega
    have h1 := h.1 _ (List.getElem_mem hlt)
    have h2 := h.2.1 _ (List.getElem_mem hlt) _ (List.getElem_mem (show 0 < l.length by omega))
    have ih' := ih k (i + 1) (by omega) (by omega)
    have r0 : rd_T25 l 0 = l[0] := rd_at l 0 (by omega)
    simp only [cofferlaw14_right.l0]
    rw [if_pos (by omega), if_pos (by omega), rd_at l i hlt, if_neg (by omega), if_pos (by omega), r0, if_pos (by rw [h2]), hw, hw2, ih']
    by_cases h0 : i = 0
    · rw [if_neg (by omega)]
    · have h3 := List.pairwise_iff_getElem.1 h.2.2 (i - 1) i (by omega) hlt (by omega)
      have e : (i : Int) - 1 = ((i - 1 : Nat) : Int) := by omega
      rw [if_pos (by omega), if_pos (by omega), if_pos (by omega), e, rd_at l (i - 1) (by omega), if_neg (by omega)]
theorem right_true (l : List S25) (h : Rt l) (hl : l.length ≤ 1954687338267) (k : Nat) (hk : l.length < k) : cofferlaw14_right.f k l = some true := right_l0 l h hl l.length k 0 (by omega) hk
/-! ### made -/
end Go.Proofs.Ytmgiolijjheodaa.Link
