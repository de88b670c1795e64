/- Same of equal and of unlike versions; that Read is one thing; no right version's bytes begin another's. -/
import Derived.Test.YtdhkcklgnnilfaaX17
import Derived.Test.YtdhkcklgnnilfaaVerMath
namespace Go.Proofs.Ytdhkcklgnnilfaa.Link
set_option linter.unusedVariables false
set_option linter.unusedSimpArgs false
open Go.RowKit Go.Proofs.Ytdhkcklgnnilfaa.X Go.Proofs.YtdhkcklgnnilfaaW.PrintWords Go.Proofs.YtdhkcklgnnilfaaW.PrintLast Go.Proofs.YtdhkcklgnnilfaaW.PrintMore

theorem same_l0 (a : ByteArray) (q : Int) (m : Bool) (d : ByteArray) (l : List S31) (a' : ByteArray) (q' : Int) (m' : Bool) (d' : ByteArray) (l' : List S31) (hl : l.length ≤ 140737488351232) (he : l.length = l'.length) (j : Nat) : ∀ (k i : Nat), i + j = l.length → j < k →
    ∃ b, cofferref13_Same.l0 k (i : Int) a q m d l a' q' m' d' l' = some b ∧ (b = true ↔ l.drop i = l'.drop i) := by
  induction j with
  | zero =>
    intro k i h hk
    obtain ⟨k, rfl⟩ : ∃ q, k = q + 1 := ⟨k - 1, by omega⟩
    simp only [cofferref13_Same.l0]
    rw [if_neg (by omega)]
    exact ⟨true, rfl, by simp; rw [List.drop_of_length_le (by omega), List.drop_of_length_le (by omega)]⟩
  | succ j ih =>
    intro k i h hk
    obtain ⟨k, rfl⟩ : ∃ q, k = q + 1 := ⟨k - 1, by omega⟩
    have hlt : i < l.length := by omega
    have hw : wrap64 ((i : Int) + 1) = ((i + 1 : Nat) : Int) := by unfold wrap64; omega
    have r1 : rd_T31 l (i : Int) = l[i] := by
      unfold rd_T31
      rw [Int.toNat_natCast, List.getD_eq_getElem?_getD, List.getElem?_eq_getElem hlt]; rfl
    have r2 : rd_T31 l' (i : Int) = l'[i] := by
      unfold rd_T31
      rw [Int.toNat_natCast, List.getD_eq_getElem?_getD, List.getElem?_eq_getElem (by omega)]; rfl
    obtain ⟨b, hb, hi⟩ := ih k (i + 1) (by omega) (by omega)
    simp only [cofferref13_Same.l0]
    rw [if_pos (by omega), if_pos (by omega), if_pos (by omega), hw, hb, r1, r2, List.drop_eq_getElem_cons hlt, List.drop_eq_getElem_cons (by omega : i < l'.length)]
    by_cases h1 : l[i] = l'[i]
    · rw [if_neg (by rw [h1]; simp)]
      exact ⟨b, rfl, by rw [hi, h1]; simp only [List.cons.injEq, true_and]⟩
    · rw [if_pos]
      · exact ⟨false, rfl, by simp only [List.cons.injEq, h1, false_and, Bool.false_eq_true]⟩
      · simp only [Bool.or_eq_true, Bool.not_eq_true', beq_eq_false_iff_ne]
        by_cases h2 : l[i].f0.toList = l'[i].f0.toList
        · right
          intro h3
          apply h1
          have e0 := toList_inj h2
          have e1 := toList_inj h3
          generalize l[i] = u at *
          generalize l'[i] = v at *
          cases u; cases v; simp only at e0 e1; rw [e0, e1]
        · exact .inl h2
/-- Same tells whether two versions are one. -/
theorem same_eq (a : ByteArray) (q : Int) (m : Bool) (d : ByteArray) (l : List S31) (a' : ByteArray) (q' : Int) (m' : Bool) (d' : ByteArray) (l' : List S31) (hl : l.length ≤ 140737488351232) (k : Nat) (hk : l.length + 2 < k) :
    ∃ b, cofferref13_Same.f k a q m d l a' q' m' d' l' = some b ∧ (b = true ↔ a = a' ∧ q = q' ∧ m = m' ∧ d = d' ∧ l = l') := by
  obtain ⟨k, rfl⟩ : ∃ q, k = q + 1 := ⟨k - 1, by omega⟩
  have hf : cofferref13_Same.j0 (k + 1) true a q m d l a' q' m' d' l' = some false := by simp [cofferref13_Same.j0]
  have ht : ∃ b, cofferref13_Same.j0 (k + 1) ((l.length : Int) != (l'.length : Int)) a q m d l a' q' m' d' l' = some b ∧ (b = true ↔ l = l') := by
    by_cases he : l.length = l'.length
    · have e : ((l.length : Int) != (l'.length : Int)) = false := by simp [he]
      obtain ⟨b, hb, hi⟩ := same_l0 a q m d l a' q' m' d' l' hl he l.length k 0 (by omega) (by omega)
      rw [e]
      simp only [cofferref13_Same.j0]
      rw [if_neg (by decide)]
      exact ⟨b, hb, by simpa using hi⟩
    · have e : ((l.length : Int) != (l'.length : Int)) = true := by simp; omega
      rw [e]
      exact ⟨false, hf, by simp; intro h; rw [h] at he; exact he rfl⟩
  obtain ⟨b, hb, hi⟩ := ht
  unfold cofferref13_Same.f
  by_cases h1 : a = a'
  · rw [if_pos (by rw [h1])]
    by_cases h2 : q = q'
    · rw [if_pos h2]
      by_cases h4 : d = d'
      · cases m <;> cases m' <;> simp only [Bool.false_eq_true, if_true, if_false] <;>
          first | (rw [if_pos (by rw [h4])]; exact ⟨b, hb, by rw [hi]; simp [h1, h2, h4]⟩) | exact ⟨false, hf, by simp⟩
      · have h4' : ¬ d.toList = d'.toList := fun e => h4 (toList_inj e)
        cases m <;> cases m' <;> simp only [Bool.false_eq_true, if_true, if_false] <;>
          first | (rw [if_neg h4']; exact ⟨false, hf, by simp [h4]⟩) | exact ⟨false, hf, by simp⟩
    · rw [if_neg h2]; exact ⟨false, hf, by simp [h2]⟩
  · rw [if_neg (fun e => h1 (toList_inj e))]; exact ⟨false, hf, by simp [h1]⟩
theorem same_self (a : ByteArray) (q : Int) (m : Bool) (d : ByteArray) (l : List S31) (hl : l.length ≤ 140737488351232) (k : Nat) (hk : l.length + 2 < k) : cofferref13_Same.f k a q m d l a q m d l = some true := by
  obtain ⟨b, hb, hi⟩ := same_eq a q m d l a q m d l hl k hk
  rw [hb, hi.2 ⟨rfl, rfl, rfl, rfl, rfl⟩]
theorem son_nil_app (x : ByteArray) : x ++ (⟨#[]⟩ : ByteArray) = x := by
  rw [show (⟨#[]⟩ : ByteArray) = ByteArray.empty from rfl, ByteArray.append_empty]
/-- Read of a right version's bytes gives it. -/
theorem read_back (a : ByteArray) (q : Int) (m : Bool) (d : ByteArray) (l : List S31) (he : errV a q m d l = 0) (k : Nat) (hk : 600 ≤ k) : version_Read.f k (strOfNums (encV a q m d l)) = some (a, q, m, d, l, 0) := by
  have := read_enc a q m d l (⟨#[]⟩ : ByteArray) he k hk
  rw [son_nil_app] at this
  rw [this]; unfold fin
  rw [if_neg (by decide), if_pos he, if_pos rfl]
theorem read_more (a : ByteArray) (q : Int) (m : Bool) (d : ByteArray) (l : List S31) (he : errV a q m d l = 0) (rest : ByteArray) (hr : rest.size ≠ 0) (k : Nat) (hk : 600 ≤ k) : version_Read.f k (strOfNums (encV a q m d l) ++ rest) = some nul := by
  rw [read_enc a q m d l rest he k hk]; unfold fin
  rw [if_neg (by decide), if_pos he, if_neg]
  intro h
  have h2 := congrArg ByteArray.size h
  rw [ByteArray.size_append] at h2
  omega
/-- No right version's bytes are the beginning of another's. -/
theorem enc_prefix (a : ByteArray) (q : Int) (m : Bool) (d : ByteArray) (l : List S31) (a' : ByteArray) (q' : Int) (m' : Bool) (d' : ByteArray) (l' : List S31) (he : errV a q m d l = 0) (he' : errV a' q' m' d' l' = 0) (rest : ByteArray) (h : strOfNums (encV a' q' m' d' l') = strOfNums (encV a q m d l) ++ rest) : rest.size = 0 ∧ a = a' ∧ q = q' ∧ m = m' ∧ d = d' ∧ l = l' := by
  have h1 := read_back a' q' m' d' l' he' 600 (by omega)
  by_cases hr : rest.size = 0
  · have hn : rest = (⟨#[]⟩ : ByteArray) := by
      apply toList_inj
      rw [(nil_iff rest).2 hr, toList_data]
    rw [h, hn, son_nil_app, read_back a q m d l he 600 (by omega)] at h1
    have := Option.some.inj h1
    simp only [Prod.mk.injEq] at this
    exact ⟨hr, this.1, this.2.1, this.2.2.1, this.2.2.2.1, this.2.2.2.2.1⟩
  · rw [h, read_more a q m d l he rest hr 600 (by omega)] at h1
    have := Option.some.inj h1
    unfold nul at this
    simp only [Prod.mk.injEq] at this
    exact absurd this.2.2.2.2.2 (by decide)
end Go.Proofs.Ytdhkcklgnnilfaa.Link
