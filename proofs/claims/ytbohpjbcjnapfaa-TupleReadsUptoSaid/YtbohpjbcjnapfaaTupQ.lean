/- Chapter 5: lists of parts out of texts: what is read leniently and written again is what is read strictly. -/
import Derived.Test.YtbohpjbcjnapfaaTupP
namespace Go.Proofs.Ytbohpjbcjnapfaa.TupM
open Go.RowKit Go.Proofs.Ytbohpjbcjnapfaa.X Go.Proofs.YtbohpjbcjnapfaaW.PrintWords Go.Proofs.YtbohpjbcjnapfaaW.PrintLast
set_option linter.unusedVariables false
set_option linter.unusedSimpArgs false

theorem numR_range (n : Int) : 0 ≤ numR n ∧ numR n < 18446744073709551616 := by
  unfold numR; rw [wrap_u64, T_enc, xor_enc]; exact enc_lt _
theorem numF_range (n : Int) : 0 ≤ numF n ∧ numF n < 18446744073709551616 := by
  unfold numF numR; rw [wrap_u64, T_enc, xor_enc, not_enc]; exact enc_lt _
theorem pt_enc (p : S52) (hp : okP p) (r : List UInt8) : pt (encP p ++ r) = some (p, r) := by
  obtain ⟨hv, hi⟩ := hp
  rcases vld_cases hv with h | h | h <;> obtain ⟨k, t, n⟩ := p <;> obtain ⟨rfl, rfl⟩ := h
  · show pt ((1 : UInt8) :: (grp t.data.toList ++ r)) = _
    simp only [pt]
    rw [if_pos (by decide), rdL_grp]; rfl
  · show pt ((2 : UInt8) :: (be (numR n) 8 ++ r)) = _
    have hl : (be (numR n) 8).length = 8 := be_len _ _
    simp only [pt]
    rw [if_neg (by decide), if_pos (by decide), if_neg (by rw [List.length_append]; omega), List.take_append_of_le_length (by omega), List.take_of_length_le (by omega), valF_be _ (numR_range n).1 (numR_range n).2, ofR_numR n hi, List.drop_append, List.drop_of_length_le (by omega), hl]
    rfl
  · show pt ((3 : UInt8) :: (be (numF n) 8 ++ r)) = _
    have hl : (be (numF n) 8).length = 8 := be_len _ _
    simp only [pt]
    rw [if_neg (by decide), if_neg (by decide), if_pos (by decide), if_neg (by rw [List.length_append]; omega), List.take_append_of_le_length (by omega), List.take_of_length_le (by omega), valF_be _ (numF_range n).1 (numF_range n).2, ofF_numF n hi, List.drop_append, List.drop_of_length_le (by omega), hl]
    rfl
theorem val8_range (l : List UInt8) (h : 8 ≤ l.length) : 0 ≤ valF (l.take 8) ∧ valF (l.take 8) < 18446744073709551616 := by
  have := valF_range (l.take 8)
  rw [List.length_take, Nat.min_eq_left h] at this
  exact this
theorem byte_of {c : UInt8} {n : Nat} (h : c.toNat = n) (d : UInt8) (hd : d.toNat = n) : c = d := UInt8.toNat_inj.1 (h.trans hd.symm)
theorem tl_nil : (tx []).toList = [] := by
  first | rfl | decide | simp [tx, ByteArray.toList_eq]
theorem vld_num (k n : Int) (h : k = 2 ∨ k = 3) : vld ⟨k, tx [], n⟩ = true := by
  unfold vld
  simp only [tl_nil]
  rcases h with rfl | rfl <;> simp
theorem pt_some {l : List UInt8} {p : S52} {r : List UInt8} (h : pt l = some (p, r)) : okP p ∧ r.length + 9 ≤ l.length ∧ (encP p).length ≤ 12 * (l.length - r.length) ∧ (p.f0 ≠ 1 → encP p ++ r = l) ∧ (p.f0 = 1 → ∃ c l', l = c :: l' ∧ c.toNat = 1 ∧ rdL l' [] = some (p.f1.data.toList, r)) := by
  match l, h with
  | c :: l, h =>
    simp only [pt] at h
    by_cases h1 : c.toNat = 1
    · rw [if_pos h1] at h
      obtain ⟨q, hq, he⟩ := Option.map_eq_some_iff.1 h
      obtain ⟨t, r'⟩ := q
      simp only [Prod.mk.injEq] at he
      obtain ⟨rfl, rfl⟩ := he
      obtain ⟨e1, e2, e3⟩ := rdL_some hq
      refine ⟨⟨rfl, by unfold i64; simp⟩, by rw [List.length_cons]; omega, ?_, fun h => absurd rfl h, fun _ => ⟨c, l, rfl, h1, hq⟩⟩
      show ((1 : UInt8) :: grp t).length ≤ _
      have := grp_len t
      simp only [List.length_cons, List.length_nil] at e2 ⊢
      omega
    · rw [if_neg h1] at h
      by_cases h2 : c.toNat = 2
      · rw [if_pos h2] at h
        by_cases h8 : l.length < 8
        · rw [if_pos h8] at h; cases h
        · rw [if_neg h8] at h
          simp only [Option.some.injEq, Prod.mk.injEq] at h
          obtain ⟨rfl, rfl⟩ := h
          have e : encP ⟨2, tx [], ofR (valF (l.take 8))⟩ = 2 :: be (numR (ofR (valF (l.take 8)))) 8 := rfl
          have hr := val8_range l (by omega)
          rw [numR_ofR _ hr.1 hr.2, be8_valF _ (by rw [List.length_take]; omega)] at e
          refine ⟨⟨vld_num _ _ (.inl rfl), i64_ofR _⟩, by rw [List.length_cons, List.length_drop]; omega, ?_, fun _ => ?_, fun h => by cases h⟩
          · rw [e, List.length_cons, List.length_cons, List.length_take, List.length_drop]; omega
          · rw [e, List.cons_append, List.take_append_drop, byte_of h2 2 rfl]
      · rw [if_neg h2] at h
        by_cases h3 : c.toNat = 3
        · rw [if_pos h3] at h
          by_cases h8 : l.length < 8
          · rw [if_pos h8] at h; cases h
          · rw [if_neg h8] at h
            simp only [Option.some.injEq, Prod.mk.injEq] at h
            obtain ⟨rfl, rfl⟩ := h
            have e : encP ⟨3, tx [], ofF (valF (l.take 8))⟩ = 3 :: be (numF (ofF (valF (l.take 8)))) 8 := rfl
            have hr := val8_range l (by omega)
            rw [numF_ofF _ hr.1 hr.2, be8_valF _ (by rw [List.length_take]; omega)] at e
            refine ⟨⟨vld_num _ _ (.inr rfl), i64_ofF _⟩, by rw [List.length_cons, List.length_drop]; omega, ?_, fun _ => ?_, fun h => by cases h⟩
            · rw [e, List.length_cons, List.length_cons, List.length_take, List.length_drop]; omega
            · rw [e, List.cons_append, List.take_append_drop, byte_of h3 3 rfl]
        · rw [if_neg h3] at h; cases h
/-- All parts, leniently. -/
def ptA : Nat → List UInt8 → Option (List S52)
  | 0, _ => none
  | n + 1, l => if l = [] then some [] else (pt l).bind fun q => (ptA n q.2).map (q.1 :: ·)
/-- All parts, each as it is written. -/
def psA : Nat → List UInt8 → Option (List S52)
  | 0, _ => none
  | n + 1, l => if l = [] then some [] else (pt l).bind fun q => if encP q.1 ++ q.2 = l then (psA n q.2).map (q.1 :: ·) else none
theorem encL_cons (p : S52) (l : List S52) (h : vld p = true) : encL (p :: l) = encP p ++ encL l := by
  unfold encL; rw [List.flatMap_cons, if_pos h]
theorem canon : ∀ (n : Nat) (l : List UInt8), psA n l = (ptA n l).bind fun ps => if encL ps = l then some ps else none
  | 0, l => rfl
  | n + 1, l => by
    simp only [psA, ptA]
    by_cases hl : l = []
    · subst hl; rfl
    · rw [if_neg hl, if_neg hl]
      cases hp : pt l with
      | none => rfl
      | some q =>
        obtain ⟨p, r⟩ := q
        obtain ⟨ok, h1, _⟩ := pt_some hp
        simp only [Option.bind_some]
        rw [canon n r]
        cases ha : ptA n r with
        | none => simp
        | some ps =>
          simp only [Option.bind_some, Option.map_some]
          rw [encL_cons p ps ok.1]
          by_cases he : encP p ++ encL ps = l
          · have := pt_enc p ok (encL ps)
            rw [he, hp] at this
            simp only [Option.some.injEq, Prod.mk.injEq, true_and] at this
            subst this
            rw [if_pos he, if_pos he, if_pos rfl]; rfl
          · rw [if_neg he]
            by_cases h2 : encP p ++ r = l
            · rw [if_pos h2]
              have : encL ps ≠ r := fun e => he (by rw [e]; exact h2)
              rw [if_neg this]; rfl
            · rw [if_neg h2]
end Go.Proofs.Ytbohpjbcjnapfaa.TupM
