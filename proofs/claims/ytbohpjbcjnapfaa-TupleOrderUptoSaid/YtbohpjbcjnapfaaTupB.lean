/- Chapter 5: lists made right, equal lists, beginnings of texts and of lists. -/
import Derived.Test.YtbohpjbcjnapfaaTupH
import Derived.Test.YtbohpjbcjnapfaaX56
import Derived.Test.YtbohpjbcjnapfaaX57
namespace Go.Proofs.Ytbohpjbcjnapfaa.TupM
open Go.RowKit Go.Proofs.Ytbohpjbcjnapfaa.X Go.Proofs.YtbohpjbcjnapfaaW.PrintWords Go.Proofs.YtbohpjbcjnapfaaW.PrintLast
set_option linter.unusedVariables false
set_option linter.unusedSimpArgs false

/-- A part made right. -/
def mk (p : S58) : S52 := if p.f0 = 2 ∨ p.f0 = 3 then ⟨p.f0, tx [], p.f2⟩ else ⟨1, p.f1, 0⟩
theorem okP_mk (p : S58) (h : i64 p.f2) : okP (mk p) := by
  unfold mk okP
  by_cases e : p.f0 = 2 ∨ p.f0 = 3
  · rw [if_pos e]; exact ⟨vld_num _ _ e, h⟩
  · rw [if_neg e]; exact ⟨rfl, by unfold i64; simp⟩
theorem parts_l0 (l : List S58) (hl : l.length ≤ 2097152) : ∀ (d i k : Nat), i + d = l.length → d < k → cofferlaw05_parts.l0 k l ((l.take i).map mk) (i : Int) = some (l.map mk)
  | 0, i, k, e, hk => by
    obtain ⟨k, rfl⟩ : ∃ q, k = q + 1 := ⟨k - 1, by omega⟩
    simp only [cofferlaw05_parts.l0]
    rw [if_neg (by omega), List.take_of_length_le (by omega)]
  | d + 1, i, k, e, hk => by
    obtain ⟨k, rfl⟩ : ∃ q, k = q + 1 := ⟨k - 1, by omega⟩
    have hi : i < l.length := by omega
    have rest := parts_l0 l hl d (i + 1) k (by omega) (by omega)
    have hm : ((l.take i).map mk).length < 4398046511104 := by rw [List.length_map, List.length_take]; omega
    rw [List.take_succ_eq_append_getElem hi, List.map_append, List.map_singleton] at rest
    simp only [cofferlaw05_parts.l0]
    rw [if_pos (by omega), if_pos (by omega), rd58 l i hi, w64_succ i (by omega)]
    by_cases h2 : l[i].f0 = 2
    · rw [if_pos h2, if_pos hm]
      rw [show mk l[i] = ⟨l[i].f0, tx [], l[i].f2⟩ by unfold mk; rw [if_pos (.inl h2)]] at rest
      exact rest
    · rw [if_neg h2]
      by_cases h3 : l[i].f0 = 3
      · rw [if_pos h3, if_pos hm]
        rw [show mk l[i] = ⟨l[i].f0, tx [], l[i].f2⟩ by unfold mk; rw [if_pos (.inr h3)]] at rest
        exact rest
      · rw [if_neg h3, if_pos hm]
        rw [show mk l[i] = ⟨1, l[i].f1, 0⟩ by unfold mk; rw [if_neg (by omega)]] at rest
        exact rest
theorem parts_f (l : List S58) (hl : l.length ≤ 2097152) (k : Nat) (hk : l.length < k) : cofferlaw05_parts.f k l = some (l.map mk) := parts_l0 l hl l.length 0 k (by omega) hk

theorem S52.ext' {a b : S52} (h0 : a.f0 = b.f0) (h1 : a.f1.toList = b.f1.toList) (h2 : a.f2 = b.f2) : a = b := by
  obtain ⟨a0, a1, a2⟩ := a
  obtain ⟨b0, b1, b2⟩ := b
  simp only at h0 h1 h2
  rw [ByteArray.toList_eq, ByteArray.toList_eq] at h1
  have : a1 = b1 := by
    rw [← tx_toList a1, ← tx_toList b1, h1]
  rw [h0, this, h2]
instance : DecidableEq S52 := fun a b =>
  if h : a.f0 = b.f0 ∧ a.f1 = b.f1 ∧ a.f2 = b.f2 then .isTrue (by obtain ⟨a0, a1, a2⟩ := a; obtain ⟨b0, b1, b2⟩ := b; simp only at h; rw [h.1, h.2.1, h.2.2]) else .isFalse (fun e => h (by rw [e]; exact ⟨rfl, rfl, rfl⟩))
theorem eq_l0 (a b : List S52) (hab : a.length = b.length) (hl : a.length ≤ 2097152) : ∀ (d i k : Nat), i + d = a.length → d < k → cofferlaw05_equal.l0 k a b (i : Int) = some (decide (a.drop i = b.drop i))
  | 0, i, k, e, hk => by
    obtain ⟨k, rfl⟩ : ∃ q, k = q + 1 := ⟨k - 1, by omega⟩
    simp only [cofferlaw05_equal.l0]
    rw [if_neg (by omega), List.drop_of_length_le (by omega), List.drop_of_length_le (by omega)]; simp
  | d + 1, i, k, e, hk => by
    obtain ⟨k, rfl⟩ : ∃ q, k = q + 1 := ⟨k - 1, by omega⟩
    have ha : i < a.length := by omega
    have hb : i < b.length := by omega
    have rest := eq_l0 a b hab hl d (i + 1) k (by omega) (by omega)
    simp only [cofferlaw05_equal.l0]
    rw [if_pos (by omega), if_pos (by omega), if_pos (by omega), rd52 a i ha, rd52 b i hb, w64_succ i (by omega), rest, List.drop_eq_getElem_cons ha, List.drop_eq_getElem_cons hb]
    by_cases he : a[i] = b[i]
    · rw [if_neg (by rw [he]; simp), he]
      congr 1
      apply decide_eq_decide.2
      exact ⟨fun h => by rw [h], fun h => by injection h⟩
    · rw [if_pos (by
        apply Decidable.byContradiction
        intro hc
        apply he
        simp only [Bool.or_eq_true, Bool.not_eq_true', beq_eq_false_iff_ne, not_or, Decidable.not_not, ne_eq] at hc
        exact S52.ext' hc.1 hc.2.1 hc.2.2)]
      congr 1; symm; rw [decide_eq_false_iff_not]
      intro h; injection h with h _; exact he h
theorem equal_f (a b : List S52) (hl : a.length ≤ 2097152) (k : Nat) (hk : a.length < k) : cofferlaw05_equal.f k a b = some (decide (a = b)) := by
  unfold cofferlaw05_equal.f
  by_cases h : a.length = b.length
  · rw [if_pos (by omega)]
    exact eq_l0 a b h hl a.length 0 k (by omega) hk
  · rw [if_neg (by omega)]
    congr 1; symm; rw [decide_eq_false_iff_not]; intro e; exact h (by rw [e])

theorem encP_pos (p : S52) : 9 ≤ (encP p).length := by
  unfold encP
  split
  · rw [List.length_cons, grp]
    split
    · rw [List.length_append, List.length_cons, List.length_take]; omega
    · rw [List.length_append, List.length_append, List.length_replicate, List.length_singleton]; omega
  · split <;> (rw [List.length_cons, be_len]; omega)
theorem encP_le (p : S52) : (encP p).length ≤ 2 * p.f1.size + 10 := by
  unfold encP
  split
  · have := grp_len p.f1.data.toList
    have e : p.f1.data.toList.length = p.f1.size := rfl
    rw [List.length_cons]; omega
  · split <;> (rw [List.length_cons, be_len]; omega)
theorem mk_size (p : S58) (h : p.f1.size ≤ 1048576) : (mk p).f1.size ≤ 1048576 := by
  unfold mk; split
  · exact Nat.zero_le _
  · exact h
theorem encL_le : ∀ (l : List S58), (∀ q ∈ l, i64 q.f2 ∧ q.f1.size ≤ 1048576) → (encL (l.map mk)).length ≤ 2097162 * l.length
  | [], _ => by simp [encL]
  | q :: l, h => by
    have hq := h q (by simp)
    have ih := encL_le l (fun q hq => h q (by simp [hq]))
    have h1 := encP_le (mk q)
    have h2 := mk_size q hq.2
    rw [List.map_cons, encL_cons _ _ (okP_mk q hq.1).1, List.length_append, List.length_cons]; omega
theorem okP_map (l : List S58) (h : ∀ q ∈ l, i64 q.f2 ∧ q.f1.size ≤ 1048576) : ∀ p ∈ l.map mk, okP p := by
  intro p hp
  obtain ⟨q, hq, rfl⟩ := List.mem_map.1 hp
  exact okP_mk q (h q hq).1
theorem encL_ge : ∀ (l : List S52), (∀ p ∈ l, okP p) → l.length ≤ (encL l).length
  | [], _ => by simp
  | p :: l, h => by
    have ih := encL_ge l (fun p hp => h p (by simp [hp]))
    have := encP_pos p
    rw [encL_cons _ _ (h p (by simp)).1, List.length_append, List.length_cons]; omega
/-- What a right list is written as. -/
theorem write_ok (l : List S52) (h : ∀ p ∈ l, okP p) (hb : (encL l).length ≤ 4398046511000) : tuple_Write.f l = some (tx (encL l), 0) := by
  rw [write_f l (by omega)]
  unfold wrF
  rw [if_pos (List.all_eq_true.2 fun p hp => (h p hp).1)]; rfl
theorem psA_back : ∀ (n : Nat) (l : List UInt8) (ps : List S52), psA n l = some ps → encL ps = l ∧ ∀ p ∈ ps, okP p
  | 0, l, ps, h => by cases h
  | n + 1, l, ps, h => by
    simp only [psA] at h
    by_cases hl : l = []
    · rw [if_pos hl] at h
      obtain rfl := Option.some.inj h
      exact ⟨by rw [hl]; rfl, by simp⟩
    · rw [if_neg hl] at h
      obtain ⟨q, hq, h⟩ := Option.bind_eq_some_iff.1 h
      by_cases hc : encP q.1 ++ q.2 = l
      · rw [if_pos hc] at h
        obtain ⟨ps', h', rfl⟩ := Option.map_eq_some_iff.1 h
        have ih := psA_back n q.2 ps' h'
        have ok := (pt_some (p := q.1) (r := q.2) hq).1
        refine ⟨by rw [encL_cons _ _ ok.1, ih.1, hc], ?_⟩
        intro p hp
        rcases List.mem_cons.1 hp with rfl | hp
        · exact ok
        · exact ih.2 p hp
      · rw [if_neg hc] at h; cases h
/-- A text that begins with another's is of a list that begins with the other. -/
theorem enc_prefix : ∀ (a b : List S52), (∀ p ∈ a, okP p) → (∀ p ∈ b, okP p) → encL a <+: encL b → a <+: b
  | [], b, _, _, _ => List.nil_prefix
  | p :: a, [], ha, _, h => by
    have := encP_pos p
    have h2 := h.length_le
    rw [encL_cons _ _ (ha p (by simp)).1, List.length_append] at h2
    have h3 : (encL ([] : List S52)).length = 0 := rfl
    omega
  | p :: a, q :: b, ha, hb, h => by
    have op := ha p (by simp)
    have oq := hb q (by simp)
    rw [encL_cons _ _ op.1, encL_cons _ _ oq.1] at h
    obtain ⟨r, hr⟩ := h
    have e1 := pt_enc p op (encL a ++ r)
    rw [← List.append_assoc, hr, pt_enc q oq] at e1
    injection e1 with e1
    injection e1 with e1 e2
    subst e1
    have := enc_prefix a b (fun p hp => ha p (by simp [hp])) (fun p hp => hb p (by simp [hp])) ⟨r, e2.symm⟩
    rw [List.cons_prefix_cons]; exact ⟨rfl, this⟩
theorem prefix_enc {a b : List S52} (h : a <+: b) : encL a <+: encL b := by
  obtain ⟨r, rfl⟩ := h
  rw [encL_append]; exact ⟨_, rfl⟩
theorem okP_take {l : List S52} (h : ∀ p ∈ l, okP p) (i : Nat) : ∀ p ∈ l.take i, okP p := fun p hp => h p (List.mem_of_mem_take hp)
end Go.Proofs.Ytbohpjbcjnapfaa.TupM
