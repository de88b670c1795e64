/- Chapter 5: texts of lists, read in plain words. -/
import Derived.Test.YtbohpjbcjnapfaaTupN
namespace Go.Proofs.Ytbohpjbcjnapfaa.TupM
open Go.RowKit Go.Proofs.Ytbohpjbcjnapfaa.X Go.Proofs.YtbohpjbcjnapfaaW.PrintWords Go.Proofs.YtbohpjbcjnapfaaW.PrintLast
set_option linter.unusedVariables false
set_option linter.unusedSimpArgs false

/-- A list of bytes as a text. -/
def tx (l : List UInt8) : ByteArray := ⟨l.toArray⟩
theorem tx_toList (s : ByteArray) : tx s.data.toList = s := rfl
theorem tx_data (l : List UInt8) : (tx l).data.toList = l := rfl
theorem tx_size (l : List UInt8) : (tx l).size = l.length := by
  show l.toArray.size = _
  simp
theorem tx_inj {a b : List UInt8} : tx a = tx b ↔ a = b := ⟨fun h => by have := congrArg (fun s => s.data.toList) h; exact this, fun h => by rw [h]⟩
theorem tx_get (l : List UInt8) (i : Nat) (h : i < (tx l).size) : (tx l)[i] = l[i]'(by rw [tx_size] at h; exact h) := by
  show (l.toArray)[i]'(by rw [List.size_toArray]; rw [tx_size] at h; exact h) = _
  exact List.getElem_toArray _
theorem tx_ext (l : List UInt8) (a b : Nat) : (tx l).extract a b = tx ((l.drop a).take (b - a)) := by
  have h : ((tx l).extract a b).data.toList = (l.drop a).take (b - a) := by
    rw [ByteArray.data_extract, Array.toList_extract, List.extract_eq_take_drop]; rfl
  rw [← h, tx_toList]
theorem tx_from (l : List UInt8) (a : Nat) : (tx l).extract a (tx l).size = tx (l.drop a) := by
  rw [tx_ext, tx_size, List.take_of_length_le (by rw [List.length_drop]; omega)]
theorem tx_upto (l : List UInt8) (b : Nat) : (tx l).extract 0 b = tx (l.take b) := by
  rw [tx_ext, List.drop_zero, Nat.sub_zero]
/-- What groups begin with, over lists. -/
def rdL (l : List UInt8) (acc : List UInt8) : Option (List UInt8 × List UInt8) :=
  if h : l.length ≤ 8 then none else
    if (l[8]'(by omega)).toNat = 9 then rdL (l.drop 9) (acc ++ l.take 8)
    else if (l[8]'(by omega)).toNat < 9 then some (acc ++ l.take (l[8]'(by omega)).toNat, l.drop 9) else none
termination_by l.length
decreasing_by rw [List.length_drop]; omega
theorem rdB_eq (l acc : List UInt8) : rdB (tx l) acc = (rdL l acc).map fun q => (q.1, tx q.2) := by
  induction hn : l.length using Nat.strongRecOn generalizing l acc with
  | _ n ih =>
    rw [rdB, rdL]
    by_cases h8 : l.length ≤ 8
    · rw [dif_pos (by rw [tx_size]; exact h8), dif_pos h8]; rfl
    · rw [dif_neg (by rw [tx_size]; exact h8), dif_neg h8]
      simp only [tx_get]
      have e1 : ((tx l).extract 0 8).data.toList = l.take 8 := by rw [tx_upto, tx_data]
      by_cases h9 : (l[8]'(by omega)).toNat = 9
      · rw [if_pos h9, if_pos h9, tx_from, e1]
        exact ih _ (by rw [List.length_drop]; omega) _ _ rfl
      · rw [if_neg h9, if_neg h9]
        by_cases hl : (l[8]'(by omega)).toNat < 9
        · rw [if_pos hl, if_pos hl, tx_from, tx_upto, tx_data]; rfl
        · rw [if_neg hl, if_neg hl]; rfl
theorem grp_long {t : List UInt8} (h : 8 < t.length) : grp t = t.take 8 ++ 9 :: grp (t.drop 8) := by rw [grp, if_pos h]
theorem grp_short {t : List UInt8} (h : t.length ≤ 8) : grp t = t ++ List.replicate (8 - t.length) 0 ++ [UInt8.ofNat t.length] := by rw [grp, if_neg (by omega)]
/-- There and back. -/
theorem rdL_grp (t r acc : List UInt8) : rdL (grp t ++ r) acc = some (acc ++ t, r) := by
  induction hn : t.length using Nat.strongRecOn generalizing t acc with
  | _ n ih =>
    by_cases h8 : 8 < t.length
    · have e : grp t ++ r = t.take 8 ++ (9 :: (grp (t.drop 8) ++ r)) := by rw [grp_long h8]; simp
      have hk : (t.take 8).length = 8 := by rw [List.length_take]; omega
      rw [e, rdL, dif_neg (by simp; omega)]
      have h9 : ∀ h, ((t.take 8 ++ (9 :: (grp (t.drop 8) ++ r)))[8]'h) = 9 := by
        intro h; rw [List.getElem_append_right (by omega)]; simp [hk]
      rw [h9, if_pos (by decide)]
      have d9 : (t.take 8 ++ (9 :: (grp (t.drop 8) ++ r))).drop 9 = grp (t.drop 8) ++ r := by
        rw [List.drop_append, hk, List.drop_of_length_le (by omega)]; rfl
      have t8 : (t.take 8 ++ (9 :: (grp (t.drop 8) ++ r))).take 8 = t.take 8 := by
        rw [List.take_append_of_le_length (by omega), List.take_of_length_le (by omega)]
      rw [d9, t8, ih _ (by rw [List.length_drop]; omega) (t.drop 8) _ rfl, List.append_assoc, List.take_append_drop]
    · have hz : (t ++ List.replicate (8 - t.length) (0 : UInt8)).length = 8 := by simp; omega
      have e : grp t ++ r = (t ++ List.replicate (8 - t.length) 0) ++ (UInt8.ofNat t.length :: r) := by rw [grp_short (by omega)]; simp
      rw [e, rdL, dif_neg (by simp; omega)]
      have hb : (UInt8.ofNat t.length).toNat = t.length := by simp; omega
      have h9 : ∀ h, (((t ++ List.replicate (8 - t.length) 0) ++ (UInt8.ofNat t.length :: r))[8]'h) = UInt8.ofNat t.length := by
        intro h; rw [List.getElem_append_right (by omega)]; simp [hz]
      rw [h9, hb, if_neg (by omega), if_pos (by omega)]
      have d9 : ((t ++ List.replicate (8 - t.length) 0) ++ (UInt8.ofNat t.length :: r)).drop 9 = r := by
        rw [List.drop_append, hz, List.drop_of_length_le (by omega)]; rfl
      have tn : ((t ++ List.replicate (8 - t.length) 0) ++ (UInt8.ofNat t.length :: r)).take t.length = t := by
        rw [List.append_assoc, List.take_append_of_le_length (by omega), List.take_of_length_le (by omega)]
      rw [d9, tn]
/-- What is read stood there. -/
theorem rdL_some {l acc t r : List UInt8} (h : rdL l acc = some (t, r)) : r.length + 9 ≤ l.length ∧ t.length ≤ acc.length + (l.length - r.length) ∧ ∃ c, l = c ++ r := by
  induction hn : l.length using Nat.strongRecOn generalizing l acc with
  | _ n ih =>
    rw [rdL] at h
    by_cases h8 : l.length ≤ 8
    · rw [dif_pos h8] at h; cases h
    · rw [dif_neg h8] at h
      by_cases h9 : (l[8]'(by omega)).toNat = 9
      · rw [if_pos h9] at h
        obtain ⟨h1, h2, c, hc⟩ := ih _ (by rw [List.length_drop]; omega) h rfl
        rw [List.length_drop] at h1 h2
        rw [List.length_append, List.length_take] at h2
        exact ⟨by omega, by omega, l.take 9 ++ c, by rw [List.append_assoc, ← hc, List.take_append_drop]⟩
      · rw [if_neg h9] at h
        by_cases hl : (l[8]'(by omega)).toNat < 9
        · rw [if_pos hl] at h
          simp only [Option.some.injEq, Prod.mk.injEq] at h
          obtain ⟨rfl, rfl⟩ := h
          rw [List.length_drop, List.length_append, List.length_take]
          exact ⟨by omega, by omega, l.take 9, (List.take_append_drop 9 l).symm⟩
        · rw [if_neg hl] at h; cases h
/-- The part that a text begins with. -/
def pt : List UInt8 → Option (S52 × List UInt8)
  | [] => none
  | c :: l => if c.toNat = 1 then (rdL l []).map fun q => (⟨1, tx q.1, 0⟩, q.2)
    else if c.toNat = 2 then (if l.length < 8 then none else some (⟨2, tx [], ofR (valF (l.take 8))⟩, l.drop 8))
    else if c.toNat = 3 then (if l.length < 8 then none else some (⟨3, tx [], ofF (valF (l.take 8))⟩, l.drop 8))
    else none
/-- It is a part, within its ranges. -/
def okP (p : S52) : Prop := vld p = true ∧ i64 p.f2
theorem vld_cases {p : S52} (h : vld p = true) : (p.f0 = 1 ∧ p.f2 = 0) ∨ (p.f0 = 2 ∧ p.f1 = tx []) ∨ (p.f0 = 3 ∧ p.f1 = tx []) := by
  unfold vld at h
  simp only [Bool.or_eq_true, Bool.and_eq_true, beq_iff_eq] at h
  have e : p.f1.toList = [] → p.f1 = tx [] := fun h => by
    have : p.f1.data.toList = [] := by rw [← h]; simp [ByteArray.toList_eq]
    rw [← tx_toList p.f1, this]
  rcases h with h | ⟨h | h, h'⟩
  · exact .inl h
  · exact .inr (.inl ⟨h, e h'⟩)
  · exact .inr (.inr ⟨h, e h'⟩)
end Go.Proofs.Ytbohpjbcjnapfaa.TupM
