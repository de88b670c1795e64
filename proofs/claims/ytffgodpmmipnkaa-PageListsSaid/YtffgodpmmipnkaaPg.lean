/- Chapter 10: keys' order; same; sizes; too long; sorted; the first place that is not below a key: plain mathematics of the printed functions. -/
import Derived.Test.YtffgodpmmipnkaaX0
import Derived.Test.YtffgodpmmipnkaaX25
import Derived.Test.YtffgodpmmipnkaaX26
import Derived.Test.YtffgodpmmipnkaaX27
import Derived.Test.YtffgodpmmipnkaaX28
import Derived.Test.YtffgodpmmipnkaaX30
import Derived.Test.YtffgodpmmipnkaaX32
import Derived.Test.YtffgodpmmipnkaaX34
import Derived.Test.YtffgodpmmipnkaaX35
import Derived.Test.YtffgodpmmipnkaaX36
import Derived.Test.YtffgodpmmipnkaaX37
import Derived.Test.YtffgodpmmipnkaaX39
import Derived.Test.YtffgodpmmipnkaaX40
import Derived.Test.YtffgodpmmipnkaaX41
import Derived.Test.YtffgodpmmipnkaaX42
import Derived.Test.YtffgodpmmipnkaaX44
import Derived.Test.YtffgodpmmipnkaaX45
import Derived.Test.YtffgodpmmipnkaaX46
import Derived.Test.YtffgodpmmipnkaaX47
import Derived.Test.YtffgodpmmipnkaaX53
import Derived.Test.YtffgodpmmipnkaaXA
import Derived.Test.YtffgodpmmipnkaaZWords
/- Chapter 10: Put, Delete, Sorted: what they make of a sorted list. -/
/- Chapter 10: Split: the first of the best places; a full page and one more make two that fit. -/
/- Chapter 10: Write: the block of a page; the document's Write is the same. -/
/- Chapter 10: Read: what stands there is taken apart, and written anew; the document's Read is the same; a block is read back. -/
/- Chapter 10: the document's example; pages that are full; a number's low bits. -/
namespace Go.Proofs.Ytffgodpmmipnkaa.Pg
set_option linter.unusedVariables false
set_option linter.unusedSimpArgs false
open Go.RowKit Go.Proofs.Ytffgodpmmipnkaa Go.Proofs.Ytffgodpmmipnkaa.X Go.Proofs.YtffgodpmmipnkaaW.PrintWords Go.Proofs.YtffgodpmmipnkaaW.PrintLast Go.Proofs.YtffgodpmmipnkaaW.PrintMore

theorem toList_data (s : ByteArray) : s.toList = s.data.toList := Go.ByteArray.toList_eq s
theorem toList_inj {a b : ByteArray} (h : a.toList = b.toList) : a = b := by
  rw [toList_data, toList_data] at h
  cases a; cases b
  simp only [ByteArray.mk.injEq]
  exact Array.toList_inj.1 h
theorem toList_iff {a b : ByteArray} : a.toList = b.toList ↔ a = b := ⟨toList_inj, fun h => by rw [h]⟩
theorem beq_key (a b : ByteArray) : (a.toList == b.toList) = true ↔ a = b := by rw [beq_iff_eq, toList_iff]
theorem less_trans : ∀ a b c : List UInt8, Op.bytesLess a b = true → Op.bytesLess b c = true → Op.bytesLess a c = true
  | _, [], _, h, _ => by simp [Op.bytesLess] at h
  | [], _ :: _, [], _, h => by simp [Op.bytesLess] at h
  | [], _ :: _, _ :: _, _, _ => rfl
  | _ :: _, _ :: _, [], _, h => by simp [Op.bytesLess] at h
  | x :: a, y :: b, z :: c, h1, h2 => by
    simp only [Op.bytesLess, Bool.or_eq_true, decide_eq_true_eq, Bool.and_eq_true, beq_iff_eq] at h1 h2 ⊢
    have ih := less_trans a b c
    simp only [UInt8.lt_iff_toNat_lt] at h1 h2 ⊢
    rcases h1 with h1 | ⟨rfl, h1⟩
    · rcases h2 with h2 | ⟨rfl, h2⟩
      · exact Or.inl (by omega)
      · exact Or.inl h1
    · rcases h2 with h2 | ⟨rfl, h2⟩
      · exact Or.inl h2
      · exact Or.inr ⟨rfl, ih h1 h2⟩
/-- One key is below another. -/
def kl (a b : ByteArray) : Prop := Op.bytesLess a.toList b.toList = true
instance (a b : ByteArray) : Decidable (kl a b) := inferInstanceAs (Decidable (_ = true))
theorem kl_irrefl (a : ByteArray) : ¬ kl a a := by unfold kl; rw [Z.less_irrefl]; simp
theorem kl_trans {a b c : ByteArray} (h : kl a b) (g : kl b c) : kl a c := less_trans _ _ _ h g
theorem kl_total (a b : ByteArray) (h : ¬ kl a b) (g : ¬ kl b a) : a = b := by
  have e := Z.less_or_eq a.toList b.toList
  unfold kl at h g
  rw [Bool.not_eq_true] at h g
  rw [h, g] at e
  exact (beq_key a b).1 (by simpa using e)
theorem kl_asymm {a b : ByteArray} (h : kl a b) : ¬ kl b a := fun g => kl_irrefl a (kl_trans h g)

theorem s37_ext {a b : S37} (h0 : a.f0 = b.f0) (h1 : a.f1 = b.f1) : a = b := by cases a; cases b; simp only at h0 h1; rw [h0, h1]
theorem rd_at (l : List S37) (i : Nat) (h : i < l.length) : rd_T37 l (i : Int) = l[i] := by
  unfold rd_T37
  rw [Int.toNat_natCast, List.getD_eq_getElem?_getD, List.getElem?_eq_getElem h]; rfl
theorem wn (i : Nat) (h : i < 9223372036854775807) : wrap64 ((i : Int) + 1) = ((i + 1 : Nat) : Int) := by unfold wrap64; omega

/-! same -/
theorem same_l0 (l l' : List S37) (hl : l.length ≤ 4398046511104) (he : l.length = l'.length) (j : Nat) : ∀ (k i : Nat), i + j = l.length → j < k →
    ∃ b, cofferlaw10_same.l0 k l l' (i : Int) = some b ∧ (b = true ↔ l.drop i = l'.drop i) := by
  induction j with
  | zero =>
    intro k i h hk
    obtain ⟨k, rfl⟩ : ∃ q, k = q + 1 := ⟨k - 1, by omega⟩
    simp only [cofferlaw10_same.l0]
    rw [if_neg (by omega)]
    exact ⟨true, rfl, by simp; rw [List.drop_of_length_le (by omega), List.drop_of_length_le (by omega)]⟩
  | succ j ih =>
    intro k i h hk
    obtain ⟨k, rfl⟩ : ∃ q, k = q + 1 := ⟨k - 1, by omega⟩
    have hlt : i < l.length := by omega
    obtain ⟨b, hb, hi⟩ := ih k (i + 1) (by omega) (by omega)
    simp only [cofferlaw10_same.l0]
    rw [if_pos (by omega), if_pos (by omega), if_pos (by omega), wn i (by omega), hb, rd_at l i hlt, rd_at l' i (by omega), List.drop_eq_getElem_cons hlt, List.drop_eq_getElem_cons (by omega : i < l'.length)]
    by_cases h1 : l[i] = l'[i]
    · rw [if_neg (by rw [h1]; simp)]
      exact ⟨b, rfl, by rw [hi, h1]; simp only [List.cons.injEq, true_and]⟩
    · rw [if_pos]
      · exact ⟨false, rfl, by simp only [List.cons.injEq, h1, false_and, Bool.false_eq_true]⟩
      · simp only [Bool.or_eq_true, Bool.not_eq_true', beq_eq_false_iff_ne]
        by_cases h2 : l[i].f0.toList = l'[i].f0.toList
        · right
          intro h3
          exact h1 (s37_ext (toList_inj h2) (toList_inj h3))
        · exact .inl h2
theorem same_eq (l l' : List S37) (hl : l.length ≤ 4398046511104) (k : Nat) (hk : l.length < k) : ∃ b, cofferlaw10_same.f k l l' = some b ∧ (b = true ↔ l = l') := by
  unfold cofferlaw10_same.f
  by_cases he : l.length = l'.length
  · rw [if_pos (by omega)]
    obtain ⟨b, h1, h2⟩ := same_l0 l l' hl he l.length k 0 (by omega) (by omega)
    exact ⟨b, h1, by simpa using h2⟩
  · rw [if_neg (by omega)]
    exact ⟨false, rfl, by simp; intro h; exact he (by rw [h])⟩
theorem same_self (l : List S37) (hl : l.length ≤ 4398046511104) (k : Nat) (hk : l.length < k) : cofferlaw10_same.f k l l = some true := by
  obtain ⟨b, h1, h2⟩ := same_eq l l hl k hk
  rw [h1, h2.2 rfl]

/-! sizes -/
def sz (e : S37) : Int := 2 + (e.f0.size : Int) + (e.f1.size : Int)
def tot : List S37 → Int
  | [] => 0
  | e :: l => sz e + tot l
theorem tot_append (a b : List S37) : tot (a ++ b) = tot a + tot b := by
  induction a with
  | nil => simp [tot]
  | cons e a ih => simp only [List.cons_append, tot, ih]; omega
theorem sz_pos (e : S37) : 2 ≤ sz e := by unfold sz; omega
theorem tot_pos (l : List S37) : 2 * (l.length : Int) ≤ tot l := by
  induction l with
  | nil => simp [tot]
  | cons e l ih => have := sz_pos e; simp only [tot, List.length_cons]; omega
theorem tot_snoc (l : List S37) (i : Nat) (h : i < l.length) : tot (l.take (i + 1)) = tot (l.take i) + sz l[i] := by
  rw [List.take_succ_eq_append_getElem h, tot_append]; simp [tot]
theorem wrap_add (a b : Int) : wrap64 (wrap64 a + b) = wrap64 (a + b) := by unfold wrap64; omega
theorem wrap_add' (a b : Int) : wrap64 (a + wrap64 b) = wrap64 (a + b) := by unfold wrap64; omega
theorem wrap_id (a : Int) (h0 : -9223372036854775808 ≤ a) (h1 : a ≤ 9223372036854775807) : wrap64 a = a := by unfold wrap64; omega
theorem psize_eq (e : S37) : page_size.f e.f0 e.f1 = some (wrap64 (sz e)) := by
  unfold page_size.f sz; rw [wrap_add]
theorem size_l0 (l : List S37) (hl : l.length ≤ 4398046511104) (j : Nat) : ∀ (k i : Nat), i + j = l.length → j < k → page_Size.l0 k (wrap64 (tot (l.take i))) l (l.length : Int) (i : Int) = some (wrap64 (tot l)) := by
  induction j with
  | zero =>
    intro k i h hk
    obtain ⟨k, rfl⟩ : ∃ q, k = q + 1 := ⟨k - 1, by omega⟩
    simp only [page_Size.l0]
    rw [if_neg (by omega), List.take_of_length_le (by omega)]
  | succ j ih =>
    intro k i h hk
    obtain ⟨k, rfl⟩ : ∃ q, k = q + 1 := ⟨k - 1, by omega⟩
    have hlt : i < l.length := by omega
    simp only [page_Size.l0]
    rw [if_pos (by omega), if_pos (by omega), if_pos (by omega), rd_at l i hlt, psize_eq, Option.bind_some, wn i (by omega), wrap_add, wrap_add', ← tot_snoc l i hlt]
    exact ih k (i + 1) (by omega) (by omega)
theorem size_eq (l : List S37) (hl : l.length ≤ 4398046511104) (k : Nat) (hk : l.length < k) : page_Size.f k l = some (wrap64 (tot l)) := by
  have := size_l0 l hl l.length k 0 (by omega) hk
  rw [List.take_zero, show wrap64 (tot []) = 0 from by simp [tot, wrap64]] at this
  exact this
theorem rsize_l0 (l : List S37) (hl : l.length ≤ 4398046511104) (j : Nat) : ∀ (k i : Nat), i + j = l.length → j < k → cofferref10_Size.l0 k l (wrap64 (tot (l.take i))) (i : Int) = some (wrap64 (tot l)) := by
  induction j with
  | zero =>
    intro k i h hk
    obtain ⟨k, rfl⟩ : ∃ q, k = q + 1 := ⟨k - 1, by omega⟩
    simp only [cofferref10_Size.l0]
    rw [if_neg (by omega), List.take_of_length_le (by omega)]
  | succ j ih =>
    intro k i h hk
    obtain ⟨k, rfl⟩ : ∃ q, k = q + 1 := ⟨k - 1, by omega⟩
    have hlt : i < l.length := by omega
    simp only [cofferref10_Size.l0]
    rw [if_pos (by omega), if_pos (by omega), rd_at l i hlt, wn i (by omega), show wrap64 (wrap64 (wrap64 (wrap64 (tot (l.take i)) + 2) + (l[i].f0.size : Int)) + (l[i].f1.size : Int)) = wrap64 (tot (l.take i) + sz l[i]) from by unfold sz wrap64; omega, ← tot_snoc l i hlt]
    exact ih k (i + 1) (by omega) (by omega)
theorem rsize_eq (l : List S37) (hl : l.length ≤ 4398046511104) (k : Nat) (hk : l.length < k) : cofferref10_Size.f k l = some (wrap64 (tot l)) := by
  have := rsize_l0 l hl l.length k 0 (by omega) hk
  rw [List.take_zero, show wrap64 (tot []) = 0 from by simp [tot, wrap64]] at this
  exact this

/-! too long -/
def long (e : S37) : Bool := decide ((e.f0.size : Int) > 100) || decide ((e.f1.size : Int) > 150)
theorem long_eq (e : S37) : page_tooLong.f e.f0 e.f1 = some (long e) := by
  unfold page_tooLong.f long
  by_cases h : (e.f0.size : Int) > 100
  · rw [if_pos h]; simp [h]
  · rw [if_neg h]; simp [h]
theorem any_l0 (l : List S37) (hl : l.length ≤ 4398046511104) (j : Nat) : ∀ (k i : Nat), i + j = l.length → j < k → ∃ t : Int, api_Entry_45.l0 k l (l.length : Int) (i : Int) = some t ∧ (decide (t ≥ 0) = (l.drop i).any long) := by
  induction j with
  | zero =>
    intro k i h hk
    obtain ⟨k, rfl⟩ : ∃ q, k = q + 1 := ⟨k - 1, by omega⟩
    simp only [api_Entry_45.l0]
    rw [if_neg (by omega), List.drop_of_length_le (by omega)]
    exact ⟨-1, rfl, by simp⟩
  | succ j ih =>
    intro k i h hk
    obtain ⟨k, rfl⟩ : ∃ q, k = q + 1 := ⟨k - 1, by omega⟩
    have hlt : i < l.length := by omega
    simp only [api_Entry_45.l0]
    rw [if_pos (by omega), if_pos (by omega), if_pos (by omega), rd_at l i hlt, long_eq, Option.bind_some, wn i (by omega), List.drop_eq_getElem_cons hlt, List.any_cons]
    by_cases h1 : long l[i] = true
    · rw [if_pos h1]; exact ⟨i, rfl, by simp [h1]⟩
    · rw [if_neg h1]
      obtain ⟨t, h2, h3⟩ := ih k (i + 1) (by omega) (by omega)
      exact ⟨t, h2, by rw [h3]; simp [h1]⟩
theorem any_eq (l : List S37) (hl : l.length ≤ 4398046511104) (k : Nat) (hk : l.length < k) (a : Int) : api_Entry_33.f k l a = some (l.any long) := by
  obtain ⟨t, h1, h2⟩ := any_l0 l hl l.length k 0 (by omega) hk
  unfold api_Entry_33.f api_Entry_45.f
  rw [show ((0 : Nat) : Int) = 0 from rfl] at h1
  rw [h1, Option.bind_some, h2, List.drop_zero]

/-! sorted -/
def Srt (l : List S37) : Prop := l.Pairwise (fun a b => kl a.f0 b.f0)
theorem srt_of_adj : ∀ (l : List S37), (∀ i (h : i + 1 < l.length), kl (l[i]'(by omega)).f0 l[i + 1].f0) → Srt l
  | [], _ => List.Pairwise.nil
  | a :: l, h => by
    have ih := srt_of_adj l (fun i hi => by have := h (i + 1) (by simpa using hi); simpa using this)
    refine List.Pairwise.cons ?_ ih
    intro b hb
    cases l with
    | nil => cases hb
    | cons c l =>
      have h0 : kl a.f0 c.f0 := by have := h 0 (by simp); simpa using this
      rcases List.mem_cons.1 hb with rfl | hb
      · exact h0
      · exact kl_trans h0 ((List.pairwise_cons.1 ih).1 b hb)
theorem adj_of_srt {l : List S37} (h : Srt l) (i j : Nat) (hij : i < j) (hj : j < l.length) : kl (l[i]'(by omega)).f0 l[j].f0 := List.pairwise_iff_getElem.1 h i j (by omega) hj hij
theorem sorted_l0 (l : List S37) (hl : l.length ≤ 4398046511104) (j : Nat) : ∀ (k i : Nat), i + j = l.length → j < k →
    ∃ b, page_sorted.l0 k l ((i : Int) + 1) = some b ∧ (b = true ↔ ∀ m, i ≤ m → ∀ h : m + 1 < l.length, kl (l[m]'(by omega)).f0 l[m + 1].f0) := by
  induction j with
  | zero =>
    intro k i h hk
    obtain ⟨k, rfl⟩ : ∃ q, k = q + 1 := ⟨k - 1, by omega⟩
    simp only [page_sorted.l0]
    rw [if_neg (by omega)]
    exact ⟨true, rfl, by simp; intro m h1 h2; omega⟩
  | succ j ih =>
    intro k i h hk
    obtain ⟨k, rfl⟩ : ∃ q, k = q + 1 := ⟨k - 1, by omega⟩
    simp only [page_sorted.l0]
    by_cases hlt : i + 1 < l.length
    · have hw : wrap64 ((i : Int) + 1 - 1) = (i : Int) := by unfold wrap64; omega
      have hw2 : wrap64 ((i : Int) + 1 + 1) = ((i + 1 : Nat) : Int) + 1 := by unfold wrap64; omega
      rw [if_pos (by omega), hw, if_pos (by omega), if_pos (by omega), if_pos (by omega), rd_at l i (by omega), show (i : Int) + 1 = ((i + 1 : Nat) : Int) by omega, rd_at l (i + 1) hlt, show wrap64 (((i + 1 : Nat) : Int) + 1) = ((i + 1 : Nat) : Int) + 1 from by unfold wrap64; omega]
      by_cases hc : Op.bytesLess (l[i]'(by omega)).f0.toList l[i + 1].f0.toList = true
      · rw [if_pos hc]
        obtain ⟨b, h1, h2⟩ := ih k (i + 1) (by omega) (by omega)
        refine ⟨b, h1, h2.trans ⟨fun g m hm h' => ?_, fun g m hm h' => g m (by omega) h'⟩⟩
        rcases Nat.lt_or_ge i m with hlt' | hge
        · exact g m (by omega) h'
        · obtain rfl : m = i := by omega
          exact hc
      · rw [if_neg hc]
        exact ⟨false, rfl, by simp only [Bool.false_eq_true, false_iff]; intro g; exact hc (g i (Nat.le_refl _) hlt)⟩
    · rw [if_neg (by omega)]
      exact ⟨true, rfl, by simp only [true_iff]; intro m h1 h2; omega⟩
theorem sorted_eq (l : List S37) (hl : l.length ≤ 4398046511104) (k : Nat) (hk : l.length < k) : ∃ b, page_sorted.f k l = some b ∧ (b = true ↔ Srt l) := by
  obtain ⟨b, h1, h2⟩ := sorted_l0 l hl l.length k 0 (by omega) hk
  refine ⟨b, h1, h2.trans ⟨fun h => srt_of_adj l (fun i hi => h i (by omega) hi), fun h m _ hm => adj_of_srt h m (m + 1) (by omega) hm⟩⟩
theorem rsorted_l0 (l : List S37) (hl : l.length ≤ 4398046511104) (j : Nat) : ∀ (k i : Nat), i + j = l.length → j < k →
    ∃ b, cofferref10_Sorted.l0 k l ((i : Int) + 1) = some b ∧ (b = true ↔ ∀ m, i ≤ m → ∀ h : m + 1 < l.length, kl (l[m]'(by omega)).f0 l[m + 1].f0) := by
  induction j with
  | zero =>
    intro k i h hk
    obtain ⟨k, rfl⟩ : ∃ q, k = q + 1 := ⟨k - 1, by omega⟩
    simp only [cofferref10_Sorted.l0]
    rw [if_neg (by omega)]
    exact ⟨true, rfl, by simp; intro m h1 h2; omega⟩
  | succ j ih =>
    intro k i h hk
    obtain ⟨k, rfl⟩ : ∃ q, k = q + 1 := ⟨k - 1, by omega⟩
    simp only [cofferref10_Sorted.l0]
    by_cases hlt : i + 1 < l.length
    · have hw : wrap64 ((i : Int) + 1 - 1) = (i : Int) := by unfold wrap64; omega
      have hw2 : wrap64 ((i : Int) + 1 + 1) = ((i + 1 : Nat) : Int) + 1 := by unfold wrap64; omega
      rw [if_pos (by omega), hw, if_pos (by omega), if_pos (by omega), if_pos (by omega), rd_at l i (by omega), show (i : Int) + 1 = ((i + 1 : Nat) : Int) by omega, rd_at l (i + 1) hlt, show wrap64 (((i + 1 : Nat) : Int) + 1) = ((i + 1 : Nat) : Int) + 1 from by unfold wrap64; omega]
      by_cases hc : Op.bytesLess (l[i]'(by omega)).f0.toList l[i + 1].f0.toList = true
      · rw [if_pos hc]
        obtain ⟨b, h1, h2⟩ := ih k (i + 1) (by omega) (by omega)
        refine ⟨b, h1, h2.trans ⟨fun g m hm h' => ?_, fun g m hm h' => g m (by omega) h'⟩⟩
        rcases Nat.lt_or_ge i m with hlt' | hge
        · exact g m (by omega) h'
        · obtain rfl : m = i := by omega
          exact hc
      · rw [if_neg hc]
        exact ⟨false, rfl, by simp only [Bool.false_eq_true, false_iff]; intro g; exact hc (g i (Nat.le_refl _) hlt)⟩
    · rw [if_neg (by omega)]
      exact ⟨true, rfl, by simp only [true_iff]; intro m h1 h2; omega⟩
theorem rsorted_eq (l : List S37) (hl : l.length ≤ 4398046511104) (k : Nat) (hk : l.length < k) : ∃ b, cofferref10_Sorted.f k l = some b ∧ (b = true ↔ Srt l) := by
  obtain ⟨b, h1, h2⟩ := rsorted_l0 l hl l.length k 0 (by omega) hk
  refine ⟨b, h1, h2.trans ⟨fun h => srt_of_adj l (fun i hi => h i (by omega) hi), fun h m _ hm => adj_of_srt h m (m + 1) (by omega) hm⟩⟩
theorem rises_l0 (l : List S37) (hl : l.length ≤ 4398046511104) (j : Nat) : ∀ (k i : Nat), i + j = l.length → j < k →
    ∃ b, cofferlaw10_rises.l0 k l ((i : Int) + 1) = some b ∧ (b = true ↔ ∀ m, i ≤ m → ∀ h : m + 1 < l.length, kl (l[m]'(by omega)).f0 l[m + 1].f0) := by
  induction j with
  | zero =>
    intro k i h hk
    obtain ⟨k, rfl⟩ : ∃ q, k = q + 1 := ⟨k - 1, by omega⟩
    simp only [cofferlaw10_rises.l0]
    rw [if_neg (by omega)]
    exact ⟨true, rfl, by simp; intro m h1 h2; omega⟩
  | succ j ih =>
    intro k i h hk
    obtain ⟨k, rfl⟩ : ∃ q, k = q + 1 := ⟨k - 1, by omega⟩
    simp only [cofferlaw10_rises.l0]
    by_cases hlt : i + 1 < l.length
    · have hw : wrap64 ((i : Int) + 1 - 1) = (i : Int) := by unfold wrap64; omega
      have hw2 : wrap64 ((i : Int) + 1 + 1) = ((i + 1 : Nat) : Int) + 1 := by unfold wrap64; omega
      rw [if_pos (by omega), hw, if_pos (by omega), if_pos (by omega), if_pos (by omega), rd_at l i (by omega), show (i : Int) + 1 = ((i + 1 : Nat) : Int) by omega, rd_at l (i + 1) hlt, show wrap64 (((i + 1 : Nat) : Int) + 1) = ((i + 1 : Nat) : Int) + 1 from by unfold wrap64; omega]
      by_cases hc : Op.bytesLess (l[i]'(by omega)).f0.toList l[i + 1].f0.toList = true
      · rw [if_pos hc]
        obtain ⟨b, h1, h2⟩ := ih k (i + 1) (by omega) (by omega)
        refine ⟨b, h1, h2.trans ⟨fun g m hm h' => ?_, fun g m hm h' => g m (by omega) h'⟩⟩
        rcases Nat.lt_or_ge i m with hlt' | hge
        · exact g m (by omega) h'
        · obtain rfl : m = i := by omega
          exact hc
      · rw [if_neg hc]
        exact ⟨false, rfl, by simp only [Bool.false_eq_true, false_iff]; intro g; exact hc (g i (Nat.le_refl _) hlt)⟩
    · rw [if_neg (by omega)]
      exact ⟨true, rfl, by simp only [true_iff]; intro m h1 h2; omega⟩
theorem rises_eq (l : List S37) (hl : l.length ≤ 4398046511104) (k : Nat) (hk : l.length < k) : ∃ b, cofferlaw10_rises.f k l = some b ∧ (b = true ↔ Srt l) := by
  obtain ⟨b, h1, h2⟩ := rises_l0 l hl l.length k 0 (by omega) hk
  refine ⟨b, h1, h2.trans ⟨fun h => srt_of_adj l (fun i hi => h i (by omega) hi), fun h m _ hm => adj_of_srt h m (m + 1) (by omega) hm⟩⟩

/-! the first place that is not below a key -/
def fnd (l : List S37) (key : ByteArray) : Nat := (l.takeWhile (fun e => decide (kl e.f0 key))).length
def isat (l : List S37) (key : ByteArray) : Bool := match l[fnd l key]? with
  | some e => decide (e.f0 = key)
  | none => false
theorem fnd_le (l : List S37) (key : ByteArray) : fnd l key ≤ l.length := (List.takeWhile_prefix _).length_le
theorem fnd_cons (e : S37) (l : List S37) (key : ByteArray) : fnd (e :: l) key = if kl e.f0 key then fnd l key + 1 else 0 := by
  unfold fnd; rw [List.takeWhile_cons]; by_cases h : kl e.f0 key <;> simp [h]
theorem fnd_below (key : ByteArray) : ∀ (l : List S37) (i : Nat) (h : i < l.length), i < fnd l key → kl l[i].f0 key
  | [], i, h, _ => absurd h (by simp)
  | e :: l, i, h, hf => by
    rw [fnd_cons] at hf
    by_cases hc : kl e.f0 key
    · rw [if_pos hc] at hf
      cases i with
      | zero => exact hc
      | succ i => exact fnd_below key l i (by simpa using h) (by omega)
    · rw [if_neg hc] at hf; omega
theorem fnd_not (key : ByteArray) : ∀ (l : List S37) (h : fnd l key < l.length), ¬ kl (l[fnd l key]'h).f0 key
  | [], h => absurd h (by simp)
  | e :: l, h => by
    by_cases hc : kl e.f0 key
    · have hf : fnd (e :: l) key = fnd l key + 1 := by rw [fnd_cons, if_pos hc]
      have h' : fnd l key < l.length := by rw [hf] at h; simpa using h
      have := fnd_not key l h'
      have e2 : (e :: l)[fnd (e :: l) key]'h = l[fnd l key]'h' := by simp only [hf, List.getElem_cons_succ]
      rw [e2]; exact this
    · have hf : fnd (e :: l) key = 0 := by rw [fnd_cons, if_neg hc]
      have e2 : (e :: l)[fnd (e :: l) key]'h = e := by simp only [hf, List.getElem_cons_zero]
      rw [e2]; exact hc
theorem fnd_behind {l : List S37} (hs : Srt l) (key : ByteArray) (i : Nat) (h : i < l.length) (hf : fnd l key ≤ i) : ¬ kl l[i].f0 key := by
  rcases Nat.lt_or_ge (fnd l key) i with hlt | hge
  · intro hk
    exact fnd_not key l (by omega) (kl_trans (adj_of_srt hs (fnd l key) i hlt h) hk)
  · have : fnd l key = i := by omega
    subst this
    exact fnd_not key l h
theorem rfind_l0 (l : List S37) (key : ByteArray) (hl : l.length ≤ 4398046511104) (j : Nat) : ∀ (k i : Nat), i + j = fnd l key → j < k → cofferref10_Find.l0 k l key (i : Int) = some ((fnd l key : Int), isat l key) := by
  have hle := fnd_le l key
  induction j with
  | zero =>
    intro k i h hk
    obtain ⟨k, rfl⟩ : ∃ q, k = q + 1 := ⟨k - 1, by omega⟩
    have hi : i = fnd l key := by omega
    subst hi
    simp only [cofferref10_Find.l0]
    by_cases hlt : fnd l key < l.length
    · have hn := fnd_not key l hlt
      rw [if_pos (by omega), if_pos (by omega), rd_at l _ hlt, if_neg (show ¬ (Op.bytesLess (l[fnd l key]'hlt).f0.toList key.toList = true) from hn)]
      unfold isat
      rw [List.getElem?_eq_getElem hlt]
      simp only [Option.some.injEq, Prod.mk.injEq, true_and]
      rw [Bool.eq_iff_iff, beq_key, decide_eq_true_iff]
    · rw [if_neg (by omega)]
      unfold isat
      rw [List.getElem?_eq_none (by omega)]
  | succ j ih =>
    intro k i h hk
    obtain ⟨k, rfl⟩ : ∃ q, k = q + 1 := ⟨k - 1, by omega⟩
    have hlt : i < l.length := by omega
    have hb : Op.bytesLess l[i].f0.toList key.toList = true := fnd_below key l i hlt (by omega)
    simp only [cofferref10_Find.l0]
    rw [if_pos (by omega), if_pos (by omega), rd_at l i hlt, if_pos hb, wn i (by omega)]
    exact ih k (i + 1) (by omega) (by omega)
theorem rfind_eq (l : List S37) (key : ByteArray) (hl : l.length ≤ 4398046511104) (k : Nat) (hk : l.length < k) : cofferref10_Find.f k l key = some ((fnd l key : Int), isat l key) :=
  rfind_l0 l key hl (fnd l key) k 0 (by omega) (by have := fnd_le l key; omega)
theorem compare_eq (a b : ByteArray) (c : ByteArray) : page_Find_1.f a c b = some (if kl a b then -1 else if kl b a then 1 else 0) := by
  unfold page_Find_1.f cmp_Compare_string.f cmp_isNaN_string.f
  simp only [bne_self_eq_false, Option.bind_some]
  rw [if_neg (by decide), if_neg (by decide)]
  by_cases h : kl a b
  · rw [if_pos (show Op.bytesLess a.toList b.toList = true from h), if_pos h]; rfl
  · rw [if_neg (show ¬ Op.bytesLess a.toList b.toList = true from h), if_neg h]
    by_cases g : kl b a
    · rw [if_pos (show Op.bytesLess b.toList a.toList = true from g), if_pos g]; rfl
    · rw [if_neg (show ¬ Op.bytesLess b.toList a.toList = true from g), if_neg g]; rfl
theorem bin_l0 {l : List S37} (hs : Srt l) (key : ByteArray) (hl : l.length ≤ 4398046511104) : ∀ (k i j : Nat), i ≤ fnd l key → fnd l key ≤ j → j ≤ l.length → j - i < k →
    api_Entry_string.l0 k l key (l.length : Int) (i : Int) (j : Int) = some ((fnd l key : Int), isat l key) := by
  intro k
  induction k with
  | zero => intro i j _ _ _ h; omega
  | succ k ih =>
    intro i j h1 h2 h3 h4
    simp only [api_Entry_string.l0]
    by_cases hij : i < j
    · have hm : wrap64 ((IntKind.u64.wrap (wrap64 ((i : Int) + (j : Int)))) / 2) = (((i + j) / 2 : Nat) : Int) := by
        have h5 : wrap64 ((i : Int) + (j : Int)) = ((i + j : Nat) : Int) := by unfold wrap64; omega
        have h6 : IntKind.u64.wrap ((i + j : Nat) : Int) = ((i + j : Nat) : Int) := by
          show (((i + j : Nat) : Int)) % 2 ^ 64 = _
          omega
        rw [h5, h6]; unfold wrap64; omega
      have hlt : (i + j) / 2 < l.length := by omega
      rw [if_pos (by omega), hm, if_pos (by omega), if_pos (by omega), rd_at l _ hlt, compare_eq, Option.bind_some]
      by_cases hc : kl l[(i + j) / 2].f0 key
      · rw [if_pos hc, if_pos (by decide), wn _ (by omega)]
        have hf : (i + j) / 2 < fnd l key := by
          apply Classical.byContradiction
          intro hn
          exact fnd_behind hs key _ hlt (by omega) hc
        exact ih _ _ (by omega) h2 h3 (by omega)
      · have hf : fnd l key ≤ (i + j) / 2 := by
          apply Classical.byContradiction
          intro hn
          exact hc (fnd_below key l _ hlt (by omega))
        rw [if_neg hc, if_neg (by split <;> omega)]
        exact ih _ _ h1 hf (by omega) (by omega)
    · obtain rfl : i = fnd l key := by omega
      rw [if_neg (by omega)]
      by_cases hlt : fnd l key < l.length
      · have hn := fnd_not key l hlt
        rw [if_pos (by omega), if_pos (by omega), if_pos (by omega), rd_at l _ hlt, compare_eq, Option.bind_some, if_neg hn]
        unfold isat
        rw [List.getElem?_eq_getElem hlt]
        simp only [Option.some.injEq, Prod.mk.injEq, true_and]
        by_cases g : kl key (l[fnd l key]'hlt).f0
        · rw [if_pos g]
          have : ¬ (l[fnd l key]'hlt).f0 = key := fun e => kl_irrefl key (by rw [e] at g; exact g)
          rw [decide_eq_false this]; rfl
        · rw [if_neg g, decide_eq_true (kl_total _ _ hn g)]; rfl
      · rw [if_neg (by omega)]
        unfold isat
        rw [List.getElem?_eq_none (by omega)]
theorem find_eq {l : List S37} (hs : Srt l) (key : ByteArray) (hl : l.length ≤ 4398046511104) (k : Nat) (hk : l.length < k) : page_Find.f k l key = some ((fnd l key : Int), isat l key) := by
  unfold page_Find.f api_Entry_string.f
  have := bin_l0 hs key hl k 0 l.length (by omega) (fnd_le l key) (Nat.le_refl _) (by omega)
  rw [show ((0 : Nat) : Int) = 0 from rfl] at this
  rw [this]; rfl
end Go.Proofs.Ytffgodpmmipnkaa.Pg
namespace Go.Proofs.Ytffgodpmmipnkaa.Pg
set_option linter.unusedVariables false
set_option linter.unusedSimpArgs false
open Go.RowKit Go.Proofs.Ytffgodpmmipnkaa Go.Proofs.Ytffgodpmmipnkaa.X Go.Proofs.YtffgodpmmipnkaaW.PrintWords Go.Proofs.YtffgodpmmipnkaaW.PrintLast Go.Proofs.YtffgodpmmipnkaaW.PrintMore

def lo (l : List S37) (key : ByteArray) : List S37 := l.take (fnd l key)
def hi (l : List S37) (key : ByteArray) : List S37 := l.drop (fnd l key + (isat l key).toNat)
def putL (l : List S37) (key v : ByteArray) : List S37 := lo l key ++ [⟨key, v⟩] ++ hi l key
def delL (l : List S37) (key : ByteArray) : List S37 := lo l key ++ hi l key
theorem isat_lt {l : List S37} {key : ByteArray} (h : isat l key = true) : fnd l key < l.length := by
  unfold isat at h
  rcases Nat.lt_or_ge (fnd l key) l.length with hl | hl
  · exact hl
  · rw [List.getElem?_eq_none hl] at h; simp at h
theorem isat_key {l : List S37} {key : ByteArray} (h : isat l key = true) : (l[fnd l key]'(isat_lt h)).f0 = key := by
  have hl := isat_lt h
  unfold isat at h
  rw [List.getElem?_eq_getElem hl] at h
  simpa using h
theorem is_le (l : List S37) (key : ByteArray) : fnd l key + (isat l key).toNat ≤ l.length := by
  cases h : isat l key
  · simpa using fnd_le l key
  · have := isat_lt h; simp; omega
theorem lo_len (l : List S37) (key : ByteArray) : (lo l key).length = fnd l key := by
  unfold lo; rw [List.length_take]; have := fnd_le l key; omega
theorem hi_len (l : List S37) (key : ByteArray) : (hi l key).length = l.length - (fnd l key + (isat l key).toNat) := by
  unfold hi; rw [List.length_drop]
theorem lo_below (l : List S37) (key : ByteArray) : ∀ e ∈ lo l key, kl e.f0 key := by
  intro e he
  unfold lo at he
  obtain ⟨i, hi, rfl⟩ := List.mem_iff_getElem.1 he
  rw [List.length_take] at hi
  rw [List.getElem_take]
  exact fnd_below key l i (by omega) (by omega)
theorem hi_at {l : List S37} (hs : Srt l) (key : ByteArray) (m : Nat) (hm : m < l.length) (h : fnd l key + (isat l key).toNat ≤ m) : kl key l[m].f0 := by
  cases h' : isat l key
  · rw [h', Bool.toNat_false] at h
    have hlt : fnd l key < l.length := by omega
    have h0 : kl key l[fnd l key].f0 := by
      have hn := fnd_not key l hlt
      apply Classical.byContradiction
      intro g
      have e := kl_total _ _ hn g
      unfold isat at h'
      rw [List.getElem?_eq_getElem hlt] at h'
      simp [e] at h'
    rcases Nat.lt_or_ge (fnd l key) m with h1 | h1
    · exact kl_trans h0 (adj_of_srt hs (fnd l key) m h1 hm)
    · obtain rfl : m = fnd l key := by omega
      exact h0
  · rw [h', Bool.toNat_true] at h
    have := adj_of_srt hs (fnd l key) m (by omega) hm
    rwa [isat_key h'] at this
theorem hi_above {l : List S37} (hs : Srt l) (key : ByteArray) : ∀ e ∈ hi l key, kl key e.f0 := by
  intro e he
  unfold hi at he
  obtain ⟨i, hi, rfl⟩ := List.mem_iff_getElem.1 he
  rw [List.length_drop] at hi
  rw [List.getElem_drop]
  exact hi_at hs key _ (by omega) (by omega)
theorem srt_del {l : List S37} (hs : Srt l) (key : ByteArray) : Srt (delL l key) := by
  unfold delL Srt
  rw [List.pairwise_append]
  refine ⟨hs.sublist (List.take_sublist _ _), hs.sublist (List.drop_sublist _ _), ?_⟩
  intro a ha b hb
  exact kl_trans (lo_below l key a ha) (hi_above hs key b hb)
theorem srt_put {l : List S37} (hs : Srt l) (key v : ByteArray) : Srt (putL l key v) := by
  unfold putL Srt
  rw [List.append_assoc, List.pairwise_append]
  refine ⟨hs.sublist (List.take_sublist _ _), ?_, ?_⟩
  · refine List.Pairwise.cons ?_ (hs.sublist (List.drop_sublist _ _))
    intro b hb
    exact hi_above hs key b hb
  · intro a ha b hb
    have h1 := lo_below l key a ha
    simp only [List.singleton_append, List.mem_cons] at hb
    rcases hb with rfl | hb
    · exact h1
    · exact kl_trans h1 (hi_above hs key b hb)
theorem parts_eq (l : List S37) (key : ByteArray) : (isat l key = false ∧ l = delL l key) ∨ (∃ e, isat l key = true ∧ e.f0 = key ∧ l = lo l key ++ [e] ++ hi l key) := by
  cases h : isat l key
  · left
    refine ⟨rfl, ?_⟩
    unfold delL lo hi
    rw [h]; simp
  · right
    have hlt := isat_lt h
    refine ⟨l[fnd l key], rfl, isat_key h, ?_⟩
    unfold lo hi
    rw [h, Bool.toNat_true, List.append_assoc, List.singleton_append, ← List.drop_eq_getElem_cons hlt, List.take_append_drop]
theorem mem_del {l : List S37} (hs : Srt l) (key : ByteArray) (e : S37) : e ∈ delL l key ↔ e ∈ l ∧ e.f0 ≠ key := by
  constructor
  · intro h
    have h' := h
    unfold delL at h'
    rcases List.mem_append.1 h' with h1 | h1
    · refine ⟨List.mem_of_mem_take h1, fun g => ?_⟩
      have := lo_below l key e h1
      rw [g] at this; exact kl_irrefl _ this
    · refine ⟨List.mem_of_mem_drop h1, fun g => ?_⟩
      have := hi_above hs key e h1
      rw [g] at this; exact kl_irrefl _ this
  · rintro ⟨h, hn⟩
    rcases parts_eq l key with ⟨_, h1⟩ | ⟨e', _, hk, h1⟩
    · rw [h1] at h; exact h
    · rw [h1] at h
      simp only [List.mem_append, List.mem_singleton] at h
      rcases h with (h | rfl) | h
      · exact List.mem_append_left _ h
      · exact absurd hk hn
      · exact List.mem_append_right _ h
theorem mem_put {l : List S37} (hs : Srt l) (key v : ByteArray) (e : S37) : e ∈ putL l key v ↔ e = ⟨key, v⟩ ∨ (e ∈ l ∧ e.f0 ≠ key) := by
  rw [← mem_del hs]
  unfold putL delL
  simp only [List.mem_append, List.mem_singleton]
  constructor
  · rintro ((h | h) | h)
    · exact .inr (.inl h)
    · exact .inl h
    · exact .inr (.inr h)
  · rintro (h | h | h)
    · exact .inl (.inr h)
    · exact .inl (.inl h)
    · exact .inr h
theorem mem_put_any {l : List S37} (key v : ByteArray) (e : S37) (h : e ∈ putL l key v) : e = ⟨key, v⟩ ∨ e ∈ l := by
  unfold putL at h
  simp only [List.mem_append, List.mem_singleton] at h
  rcases h with (h | h) | h
  · exact .inr (List.mem_of_mem_take h)
  · exact .inl h
  · exact .inr (List.mem_of_mem_drop h)
theorem fnd_split (key : ByteArray) (B : List S37) (hB : ∀ e ∈ B.head?, ¬ kl e.f0 key) : ∀ A : List S37, (∀ e ∈ A, kl e.f0 key) → fnd (A ++ B) key = A.length
  | [], _ => by
    cases B with
    | nil => rfl
    | cons b B => rw [List.nil_append, fnd_cons, if_neg (hB b rfl)]; rfl
  | a :: A, h => by
    rw [List.cons_append, fnd_cons, if_pos (h a List.mem_cons_self), fnd_split key B hB A (fun e he => h e (List.mem_cons_of_mem _ he))]; rfl
theorem put_fnd (l : List S37) (key v : ByteArray) : fnd (putL l key v) key = fnd l key := by
  unfold putL
  rw [List.append_assoc, fnd_split key _ (by intro e he; simp only [List.singleton_append, List.head?_cons, Option.mem_def, Option.some.injEq] at he; subst he; exact kl_irrefl _) _ (lo_below l key), lo_len]
theorem put_at (l : List S37) (key v : ByteArray) : (putL l key v)[fnd l key]? = some ⟨key, v⟩ := by
  unfold putL
  rw [List.append_assoc, List.getElem?_append_right (by rw [lo_len]; omega), lo_len, Nat.sub_self]; rfl
theorem put_isat (l : List S37) (key v : ByteArray) : isat (putL l key v) key = true := by
  unfold isat
  rw [put_fnd, put_at]; simp
theorem del_fnd {l : List S37} (hs : Srt l) (key : ByteArray) : fnd (delL l key) key = fnd l key := by
  unfold delL
  rw [fnd_split key _ (fun e he => kl_asymm (hi_above hs key e (List.mem_of_mem_head? he))) _ (lo_below l key), lo_len]
theorem del_isat {l : List S37} (hs : Srt l) (key : ByteArray) : isat (delL l key) key = false := by
  cases h : isat (delL l key) key
  · rfl
  · have hm : (delL l key)[fnd (delL l key) key]'(isat_lt h) ∈ delL l key := List.getElem_mem _
    exact absurd (isat_key h) ((mem_del hs key _).1 hm).2
theorem del_put (l : List S37) (key v : ByteArray) : delL (putL l key v) key = delL l key := by
  have h1 : lo (putL l key v) key = lo l key := by
    conv => lhs; unfold lo
    rw [put_fnd]; unfold putL
    rw [List.append_assoc, List.take_append_of_le_length (by rw [lo_len]; omega), List.take_of_length_le (by rw [lo_len]; omega)]
  have h2 : hi (putL l key v) key = hi l key := by
    conv => lhs; unfold hi
    rw [put_fnd, put_isat]; unfold putL
    rw [List.append_assoc, List.drop_append, lo_len]
    rw [List.drop_of_length_le (by rw [lo_len]; simp), Bool.toNat_true, List.nil_append, show fnd l key + 1 - fnd l key = 1 by omega]; rfl
  unfold delL; rw [h1, h2]
theorem del_not {l : List S37} {key : ByteArray} (h : isat l key = false) : delL l key = l := by
  rcases parts_eq l key with ⟨_, h1⟩ | ⟨e, h1, _⟩
  · exact h1.symm
  · rw [h] at h1; cases h1
theorem put_len (l : List S37) (key v : ByteArray) : (putL l key v).length + (isat l key).toNat = l.length + 1 := by
  have := is_le l key
  unfold putL
  simp only [List.length_append, lo_len, hi_len, List.length_singleton]; omega
theorem del_len (l : List S37) (key : ByteArray) : (delL l key).length + (isat l key).toNat = l.length := by
  have := is_le l key
  unfold delL
  simp only [List.length_append, lo_len, hi_len]; omega

/-! what is at a key -/
def get (l : List S37) (key : ByteArray) : Option S37 := if isat l key = true then l[fnd l key]? else none
theorem get_mem {l : List S37} {key : ByteArray} {e : S37} (h : get l key = some e) : e ∈ l ∧ e.f0 = key := by
  unfold get at h
  by_cases hi : isat l key = true
  · rw [if_pos hi, List.getElem?_eq_getElem (isat_lt hi)] at h
    obtain rfl := Option.some.inj h
    exact ⟨List.getElem_mem _, isat_key hi⟩
  · rw [if_neg hi] at h; cases h
theorem get_of_mem {l : List S37} (hs : Srt l) {key : ByteArray} {e : S37} (h : e ∈ l) (hk : e.f0 = key) : get l key = some e := by
  obtain ⟨i, hi, rfl⟩ := List.mem_iff_getElem.1 h
  have h1 : fnd l key ≤ i := by
    apply Classical.byContradiction
    intro hn
    have := fnd_below key l i hi (by omega)
    rw [hk] at this; exact kl_irrefl _ this
  have h2 : fnd l key = i := by
    apply Classical.byContradiction
    intro hn
    have := adj_of_srt hs (fnd l key) i (by omega) hi
    rw [hk] at this
    exact fnd_not key l (by omega) this
  subst h2
  have h3 : isat l key = true := by
    unfold isat
    rw [List.getElem?_eq_getElem hi]; simp [hk]
  unfold get
  rw [if_pos h3, List.getElem?_eq_getElem hi]
theorem get_congr {l l' : List S37} (hs : Srt l) (hs' : Srt l') {key : ByteArray} (h : ∀ e : S37, e.f0 = key → (e ∈ l ↔ e ∈ l')) : get l key = get l' key := by
  cases h1 : get l key with
  | some e =>
    obtain ⟨hm, hk⟩ := get_mem h1
    exact (get_of_mem hs' ((h e hk).1 hm) hk).symm
  | none =>
    cases h2 : get l' key with
    | none => rfl
    | some e =>
      obtain ⟨hm, hk⟩ := get_mem h2
      rw [get_of_mem hs ((h e hk).2 hm) hk] at h1; cases h1

/-! the functions -/
theorem put_eq {l : List S37} (hs : Srt l) (key v : ByteArray) (hl : l.length + 1 < 4398046511104) (k : Nat) (hk : l.length < k) : page_Put.f k l key v = some (putL l key v) := by
  have := is_le l key
  unfold page_Put.f
  rw [find_eq hs key (by omega) k hk, Option.bind_some]
  simp only [Int.toNat_natCast]
  rw [if_pos ⟨by omega, by omega, by omega⟩]
  rfl
theorem rput_eq (l : List S37) (key v : ByteArray) (hl : l.length + 1 < 4398046511104) (k : Nat) (hk : l.length < k) : cofferref10_Put.f k l key v = some (putL l key v) := by
  have h1 := is_le l key
  have h2 := fnd_le l key
  have h3 := lo_len l key
  unfold cofferref10_Put.f
  rw [rfind_eq l key (by omega) k hk]
  simp only [Option.bind_some, Int.toNat_natCast, List.length_nil, Nat.zero_add, List.nil_append]
  unfold lo at h3
  rw [if_pos (by omega), if_pos (by omega), if_pos (by omega), if_pos (by omega)]
  unfold putL lo hi
  cases h : isat l key
  · simp only [Bool.false_eq_true, if_false, Bool.toNat_false, Nat.add_zero]
    rw [if_pos (by simp only [List.length_append, List.length_singleton, List.length_drop]; omega)]
  · rw [h, Bool.toNat_true] at h1
    simp only [if_true, Bool.toNat_true]
    rw [wn _ (by omega)]
    simp only [Int.toNat_natCast]
    rw [if_pos (by omega), if_pos (by omega), if_pos (by simp only [List.length_append, List.length_singleton, List.length_drop]; omega)]
theorem del_eq {l : List S37} (hs : Srt l) (key : ByteArray) (hl : l.length + 1 < 4398046511104) (k : Nat) (hk : l.length < k) : page_Delete.f k l key = some (delL l key, isat l key) := by
  have h1 := is_le l key
  have h2 := fnd_le l key
  have h3 := lo_len l key
  unfold page_Delete.f
  rw [find_eq hs key (by omega) k hk, Option.bind_some]
  simp only []
  cases h : isat l key
  · rw [if_neg (by decide)]
    unfold api_Entry_42.f
    rw [if_pos (by omega), Option.bind_some, del_not h]
  · rw [h, Bool.toNat_true] at h1
    rw [if_pos rfl, if_pos (by omega), if_pos (by omega), wn _ (by omega), if_pos (by omega), if_pos (by omega)]
    unfold api_Entry_43.f
    simp only [Int.toNat_natCast, List.flatten_cons, List.flatten_nil, List.append_nil]
    unfold lo at h3
    rw [if_pos (by simp only [List.length_append, List.length_drop]; omega), Option.bind_some]
    unfold delL lo hi
    rw [h]; rfl
theorem rdel_eq (l : List S37) (key : ByteArray) (hl : l.length + 1 < 4398046511104) (k : Nat) (hk : l.length < k) : cofferref10_Delete.f k l key = some (delL l key, isat l key) := by
  have h1 := is_le l key
  have h2 := fnd_le l key
  have h3 := lo_len l key
  unfold cofferref10_Delete.f
  rw [rfind_eq l key (by omega) k hk]
  simp only [Option.bind_some, Int.toNat_natCast, List.length_nil, Nat.zero_add, List.nil_append]
  unfold lo at h3
  rw [if_pos (by omega), if_pos (by omega), if_pos (by omega)]
  unfold delL lo hi
  cases h : isat l key
  · simp only [Bool.false_eq_true, if_false, Bool.toNat_false, Nat.add_zero]
    rw [if_pos (by simp only [List.length_drop]; omega)]
  · rw [h, Bool.toNat_true] at h1
    simp only [if_true, Bool.toNat_true]
    rw [wn _ (by omega)]
    simp only [Int.toNat_natCast]
    rw [if_pos (by omega), if_pos (by omega), if_pos (by simp only [List.length_drop]; omega)]
def sortL (raw : List S37) : List S37 := (raw.take 200).foldl (fun a e => putL a e.f0 e.f1) []
theorem fold_srt : ∀ (es a : List S37), Srt a → Srt (es.foldl (fun a e => putL a e.f0 e.f1) a)
  | [], a, h => h
  | e :: es, a, h => fold_srt es _ (srt_put h e.f0 e.f1)
theorem fold_mem : ∀ (es a : List S37) (x : S37), x ∈ es.foldl (fun a e => putL a e.f0 e.f1) a → x ∈ es ∨ x ∈ a
  | [], a, x, h => .inr h
  | e :: es, a, x, h => by
    rcases fold_mem es _ x h with h | h
    · exact .inl (List.mem_cons_of_mem _ h)
    · rcases mem_put_any e.f0 e.f1 x h with rfl | h
      · exact .inl List.mem_cons_self
      · exact .inr h
theorem fold_len : ∀ (es a : List S37), (es.foldl (fun a e => putL a e.f0 e.f1) a).length ≤ es.length + a.length
  | [], a => by simp
  | e :: es, a => by
    have := fold_len es (putL a e.f0 e.f1)
    have := put_len a e.f0 e.f1
    simp only [List.foldl_cons, List.length_cons]; omega
theorem sort_srt (raw : List S37) : Srt (sortL raw) := fold_srt _ _ List.Pairwise.nil
theorem sort_mem (raw : List S37) (x : S37) (h : x ∈ sortL raw) : x ∈ raw := by
  rcases fold_mem _ _ x h with h | h
  · exact List.mem_of_mem_take h
  · cases h
theorem sort_len (raw : List S37) : (sortL raw).length ≤ 200 := by
  have := fold_len (raw.take 200) []
  unfold sortL
  rw [List.length_take] at this
  simp only [List.length_nil] at this; omega
theorem sortlaw_l0 (raw : List S37) (hl : raw.length ≤ 4398046511104) (j : Nat) : ∀ (k i : Nat), i + j = min raw.length 200 → j + 202 < k →
    cofferlaw10_Sorted.l0 k raw ((raw.take i).foldl (fun a e => putL a e.f0 e.f1) []) (i : Int) = some (sortL raw) := by
  induction j with
  | zero =>
    intro k i h hk
    obtain ⟨k, rfl⟩ : ∃ q, k = q + 1 := ⟨k - 1, by omega⟩
    have e : raw.take i = raw.take 200 := by
      rcases Nat.lt_or_ge raw.length 200 with h1 | h1
      · rw [List.take_of_length_le (by omega), List.take_of_length_le (by omega)]
      · rw [show i = 200 by omega]
    simp only [cofferlaw10_Sorted.l0]
    rw [e]
    by_cases h1 : (i : Int) < (raw.length : Int)
    · rw [if_pos h1, if_neg (by omega)]; rfl
    · rw [if_neg h1]; rfl
  | succ j ih =>
    intro k i h hk
    obtain ⟨k, rfl⟩ : ∃ q, k = q + 1 := ⟨k - 1, by omega⟩
    have hlt : i < raw.length := by omega
    have hn := fold_len (raw.take i) []
    rw [List.length_take] at hn
    simp only [List.length_nil] at hn
    simp only [cofferlaw10_Sorted.l0]
    rw [if_pos (by omega), if_pos (by omega), if_pos (by omega), rd_at raw i hlt, rput_eq _ _ _ (by omega) k (by omega), Option.bind_some, wn i (by omega)]
    have := ih k (i + 1) (by omega) (by omega)
    rw [List.take_succ_eq_append_getElem hlt, List.foldl_append] at this
    exact this
theorem sorted_law_eq (raw : List S37) (hl : raw.length ≤ 4398046511104) (k : Nat) (hk : 500 < k) : cofferlaw10_Sorted.f k raw = some (sortL raw) := by
  have := sortlaw_l0 raw hl (min raw.length 200) k 0 (by omega) (by omega)
  exact this
end Go.Proofs.Ytffgodpmmipnkaa.Pg
namespace Go.Proofs.Ytffgodpmmipnkaa.Pg
set_option linter.unusedVariables false
set_option linter.unusedSimpArgs false
open Go.RowKit Go.Proofs.Ytffgodpmmipnkaa Go.Proofs.Ytffgodpmmipnkaa.X Go.Proofs.YtffgodpmmipnkaaW.PrintWords Go.Proofs.YtffgodpmmipnkaaW.PrintLast Go.Proofs.YtffgodpmmipnkaaW.PrintMore

theorem wrap_mid {a : Int} (h0 : 0 ≤ a) (h1 : a < 4611686018427387904) : wrap64 a = a := by unfold wrap64; omega
def gr (l : List S37) (i : Nat) : Int := mx (tot (l.take i)) (tot (l.drop i))
theorem tot_cut (l : List S37) (i : Nat) : tot (l.take i) + tot (l.drop i) = tot l := by
  rw [← tot_append, List.take_append_drop]
theorem tot0 (l : List S37) : 0 ≤ tot l := by have := tot_pos l; omega
theorem gr_pos (l : List S37) (i : Nat) : 0 ≤ gr l i := by
  unfold gr mx; have := tot0 (l.take i); have := tot0 (l.drop i); split <;> omega
/-- The first of the best places: from place i on, d places more; b: the best so far (0: none), m: its greater part. -/
def scan (l : List S37) : Nat → Nat → Nat → Int → Nat
  | 0, _, b, _ => b
  | d + 1, i, b, m => if b = 0 ∨ gr l i < m then scan l d (i + 1) i (gr l i) else scan l d (i + 1) b m
def cutAt (l : List S37) : Nat := scan l (l.length - 1) 1 0 0
theorem scan_best (l : List S37) (d : Nat) : ∀ (i b : Nat) (m : Int), 1 ≤ i → (b = 0 → i = 1) → (b ≠ 0 → m = gr l b ∧ b < i ∧ ∀ j, 1 ≤ j → j < i → gr l b ≤ gr l j) → 0 < d + b →
    1 ≤ scan l d i b m ∧ scan l d i b m < i + d ∧ ∀ j, 1 ≤ j → j < i + d → gr l (scan l d i b m) ≤ gr l j := by
  induction d with
  | zero =>
    intro i b m hi h0 h1 hd
    obtain ⟨h2, h3, h4⟩ := h1 (by omega)
    simp only [scan]
    exact ⟨by omega, by omega, fun j hj1 hj2 => h4 j hj1 (by omega)⟩
  | succ d ih =>
    intro i b m hi h0 h1 hd
    simp only [scan]
    by_cases hc : b = 0 ∨ gr l i < m
    · rw [if_pos hc]
      have := ih (i + 1) i (gr l i) (by omega) (by omega) (fun _ => ⟨rfl, by omega, fun j hj1 hj2 => by
        rcases Nat.lt_or_ge j i with h5 | h5
        · by_cases hb : b = 0
          · have := h0 hb; omega
          · obtain ⟨h2, h3, h4⟩ := h1 hb
            have := h4 j hj1 h5
            rcases hc with hc | hc
            · exact absurd hc hb
            · omega
        · obtain rfl : j = i := by omega
          exact Int.le_refl _⟩) (by omega)
      rw [show i + (d + 1) = i + 1 + d by omega]; exact this
    · rw [if_neg hc]
      have hb : b ≠ 0 := fun h => hc (.inl h)
      obtain ⟨h2, h3, h4⟩ := h1 hb
      have := ih (i + 1) b m (by omega) (by omega) (fun _ => ⟨h2, by omega, fun j hj1 hj2 => by
        rcases Nat.lt_or_ge j i with h5 | h5
        · exact h4 j hj1 h5
        · obtain rfl : j = i := by omega
          have : ¬ gr l j < m := fun h => hc (.inr h)
          omega⟩) (by omega)
      rw [show i + (d + 1) = i + 1 + d by omega]; exact this
theorem cut_best (l : List S37) (h : 2 ≤ l.length) : 1 ≤ cutAt l ∧ cutAt l < l.length ∧ ∀ j, 1 ≤ j → j < l.length → gr l (cutAt l) ≤ gr l j := by
  have := scan_best l (l.length - 1) 1 0 0 (by omega) (by omega) (by omega) (by omega)
  rw [show 1 + (l.length - 1) = l.length by omega] at this
  exact this
def splitL (l : List S37) : List S37 × List S37 := if l.length < 2 then (l, []) else (l.take (cutAt l), l.drop (cutAt l))
theorem tot_take_le (l : List S37) (i : Nat) : tot (l.take i) ≤ tot l := by have := tot_cut l i; have := tot0 (l.drop i); omega
theorem tot_drop_le (l : List S37) (i : Nat) : tot (l.drop i) ≤ tot l := by have := tot_cut l i; have := tot0 (l.take i); omega
theorem split_l0 (l : List S37) (hl : l.length < 4398046511104) (ht : tot l < 4611686018427387904) (d : Nat) : ∀ (k i b : Nat) (m : Int), 1 ≤ i → i + d = l.length → d < k → b < i → (d = 0 → b ≠ 0) →
    page_Split.l0 k l (tot l) (b : Int) m (tot (l.take (i - 1))) (i : Int) = some (l.take (scan l d i b m), l.drop (scan l d i b m)) := by
  induction d with
  | zero =>
    intro k i b m hi h hk hb hb0
    obtain ⟨k, rfl⟩ : ∃ q, k = q + 1 := ⟨k - 1, by omega⟩
    simp only [page_Split.l0, scan]
    rw [if_neg (by omega), if_pos (by omega), if_pos (by omega), Int.toNat_natCast]
    unfold api_Entry_42.f
    rw [if_pos (by rw [List.length_take]; omega), if_pos (by rw [List.length_drop]; omega)]; rfl
  | succ d ih =>
    intro k i b m hi h hk hb hb0
    obtain ⟨k, rfl⟩ : ∃ q, k = q + 1 := ⟨k - 1, by omega⟩
    have hw : wrap64 ((i : Int) - 1) = ((i - 1 : Nat) : Int) := by unfold wrap64; omega
    have h0 := tot0 (l.take (i - 1))
    have h1 := tot_take_le l i
    have hs := tot_snoc l (i - 1) (by omega)
    rw [show i - 1 + 1 = i by omega] at hs
    have h2 := sz_pos l[i - 1]
    have hc := tot_cut l i
    have h3 := tot0 (l.drop i)
    have a1 : 0 ≤ sz l[i - 1] ∧ sz l[i - 1] < 4611686018427387904 := by omega
    have a2 : 0 ≤ tot (l.take (i - 1)) + sz l[i - 1] ∧ tot (l.take (i - 1)) + sz l[i - 1] < 4611686018427387904 := by omega
    have a3 : 0 ≤ tot l - tot (l.take i) ∧ tot l - tot (l.take i) < 4611686018427387904 := by omega
    have a4 : tot l - tot (l.take i) = tot (l.drop i) := by omega
    have e1 : wrap64 (sz l[i - 1]) = sz l[i - 1] := wrap_mid a1.1 a1.2
    have e2 : wrap64 (tot (l.take (i - 1)) + sz l[i - 1]) = tot (l.take i) := (wrap_mid a2.1 a2.2).trans hs.symm
    have e3 : wrap64 (tot l - tot (l.take i)) = tot (l.drop i) := (wrap_mid a3.1 a3.2).trans a4
    simp only [page_Split.l0, scan]
    rw [if_pos (by omega), hw, if_pos (by omega), if_pos (by omega), rd_at l (i - 1) (by omega), psize_eq, Option.bind_some, e1, e2, e3, wn i (by omega), show mx (tot (l.take i)) (tot (l.drop i)) = gr l i from rfl]
    by_cases hb1 : b = 0
    · subst hb1
      rw [if_pos (show ((0 : Nat) : Int) = 0 from rfl), if_pos (Or.inl rfl)]
      exact ih k (i + 1) i (gr l i) (by omega) (by omega) (by omega) (by omega) (by omega)
    · rw [if_neg (by omega)]
      by_cases hg : gr l i < m
      · rw [if_pos hg, if_pos (.inr hg)]
        exact ih k (i + 1) i (gr l i) (by omega) (by omega) (by omega) (by omega) (by omega)
      · rw [if_neg hg, if_neg (by omega)]
        exact ih k (i + 1) b m (by omega) (by omega) (by omega) (by omega) (by omega)
theorem split_eq (l : List S37) (hl : l.length < 4398046511104) (ht : tot l < 4611686018427387904) (k : Nat) (hk : l.length < k) : page_Split.f k l = some (splitL l) := by
  unfold page_Split.f splitL
  by_cases h : l.length < 2
  · rw [if_pos (by omega), if_pos h]
    unfold api_Entry_42.f
    rw [if_pos hl]; rfl
  · rw [if_neg (by omega), if_neg h, size_eq l (by omega) k hk, Option.bind_some, wrap_mid (tot0 l) ht]
    have := split_l0 l hl ht (l.length - 1) k 1 0 0 (by omega) (by omega) (by omega) (by omega) (by omega)
    exact this
/-! what fits -/
theorem sz_short {e : S37} (h : long e = false) : sz e ≤ 252 := by
  unfold long at h
  simp only [Bool.or_eq_false_iff, decide_eq_false_iff_not] at h
  unfold sz; omega
def Short (l : List S37) : Prop := ∀ e ∈ l, long e = false
theorem short_any {l : List S37} (h : Short l) : l.any long = false := by
  rw [List.any_eq_false]; intro e he; rw [h e he]; simp
theorem short_tot {l : List S37} (h : Short l) : tot l ≤ 252 * (l.length : Int) := by
  induction l with
  | nil => simp [tot]
  | cons e l ih =>
    have := ih (fun x hx => h x (List.mem_cons_of_mem _ hx))
    have := sz_short (h e List.mem_cons_self)
    simp only [tot, List.length_cons]; omega
theorem fit_exists (l : List S37) (hs : Short l) (hl : 2 ≤ l.length) (ht : tot l ≤ 759) : ∃ i, 1 ≤ i ∧ i < l.length ∧ tot (l.take i) ≤ 507 ∧ tot (l.drop i) ≤ 507 := by
  have one : ∀ i (h : i < l.length), tot (l.take (i + 1)) ≤ tot (l.take i) + 252 := by
    intro i h
    rw [tot_snoc l i h]
    have := sz_short (hs _ (List.getElem_mem h)); omega
  have key : ∀ n, n < l.length → tot (l.take n) > 507 → ∃ i, 1 ≤ i ∧ i < n ∧ tot (l.take i) ≤ 507 ∧ tot (l.take (i + 1)) > 507 := by
    intro n
    induction n with
    | zero => intro _ h; simp [tot] at h
    | succ n ih =>
      intro hn h
      by_cases h1 : tot (l.take n) > 507
      · obtain ⟨i, a, b, c, d⟩ := ih (by omega) h1
        exact ⟨i, a, by omega, c, d⟩
      · refine ⟨n, ?_, by omega, by omega, h⟩
        apply Classical.byContradiction
        intro h2
        obtain rfl : n = 0 := by omega
        have := one 0 (by omega)
        simp only [List.take_zero, tot] at this
        omega
  by_cases h : tot (l.take (l.length - 1)) > 507
  · obtain ⟨i, h1, h2, h3, h4⟩ := key (l.length - 1) (by omega) h
    have := one i (by omega)
    have := tot_cut l i
    exact ⟨i, h1, by omega, h3, by omega⟩
  · have h1 := one (l.length - 1) (by omega)
    rw [show l.length - 1 + 1 = l.length by omega, List.take_length] at h1
    have := tot_cut l (l.length - 1)
    exact ⟨l.length - 1, by omega, by omega, by omega, by omega⟩
theorem split_fits (l : List S37) (hs : Short l) (ht : tot l ≤ 759) (h1 : ∀ e, l = [e] → True) : tot (splitL l).1 ≤ 507 ∧ tot (splitL l).2 ≤ 507 := by
  unfold splitL
  by_cases h : l.length < 2
  · rw [if_pos h]
    have := short_tot hs
    exact ⟨by simp only; omega, by simp [tot]⟩
  · rw [if_neg h]
    obtain ⟨i, h2, h3, h4, h5⟩ := fit_exists l hs (by omega) ht
    obtain ⟨_, _, hb⟩ := cut_best l (by omega)
    have hb := hb i h2 h3
    unfold gr mx at hb
    simp only
    split at hb <;> split at hb <;> omega
theorem split_app (l : List S37) : (splitL l).1 ++ (splitL l).2 = l := by
  unfold splitL
  by_cases h : l.length < 2
  · rw [if_pos h]; simp
  · rw [if_neg h]; simp
theorem split_some (l : List S37) (h : 1 < l.length) : (splitL l).1.length ≠ 0 ∧ (splitL l).2.length ≠ 0 := by
  obtain ⟨h1, h2, _⟩ := cut_best l (by omega)
  unfold splitL
  rw [if_neg (by omega)]
  simp only [List.length_take, List.length_drop]
  omega
theorem put_tot (l : List S37) (key v : ByteArray) : tot (putL l key v) ≤ tot l + sz ⟨key, v⟩ := by
  have e : tot (putL l key v) = tot (lo l key) + sz ⟨key, v⟩ + tot (hi l key) := by
    unfold putL; rw [tot_append, tot_append]; simp [tot]
  rcases parts_eq l key with ⟨_, h⟩ | ⟨x, _, _, h⟩
  · have : tot l = tot (lo l key) + tot (hi l key) := by conv => lhs; rw [h]; unfold delL; rw [tot_append]
    omega
  · have : tot l = tot (lo l key) + sz x + tot (hi l key) := by conv => lhs; rw [h, tot_append, tot_append]; simp [tot]
    have := sz_pos x
    omega
end Go.Proofs.Ytffgodpmmipnkaa.Pg
namespace Go.Proofs.Ytffgodpmmipnkaa.Pg
set_option linter.unusedVariables false
set_option linter.unusedSimpArgs false
open Go.RowKit Go.Proofs.Ytffgodpmmipnkaa Go.Proofs.Ytffgodpmmipnkaa.X Go.Proofs.YtffgodpmmipnkaaW.PrintWords Go.Proofs.YtffgodpmmipnkaaW.PrintLast Go.Proofs.YtffgodpmmipnkaaW.PrintMore

theorem son_append (xs ys : List Int) : strOfNums (xs ++ ys) = strOfNums xs ++ strOfNums ys := by
  apply toList_inj
  rw [toList_data, toList_data]
  simp [strOfNums]
theorem son_bytesOf (s : ByteArray) : strOfNums (bytesOf s) = s := by
  apply toList_inj
  rw [toList_data, toList_data]
  unfold strOfNums bytesOf
  simp only [List.map_map]
  have h2 : ((fun x : Int => UInt8.ofNat x.toNat) ∘ fun b : UInt8 => (b.toNat : Int)) = id := by funext b; simp
  simp [h2]
theorem son_size (xs : List Int) : (strOfNums xs).size = xs.length := by
  rw [← data_length]; simp [strOfNums]
theorem rep_zero (n : Nat) : (⟨(Lib.repeatL (⟨#[0]⟩ : ByteArray).data.toList n).toArray⟩ : ByteArray) = strOfNums (List.replicate n 0) := by
  apply toList_inj
  rw [toList_data, toList_data]
  simp only [strOfNums]
  induction n with
  | zero => rfl
  | succ n ih => simp only [Lib.repeatL, List.replicate_succ, List.map_cons] at ih ⊢; simpa using ih
theorem bytes_len (s : ByteArray) : (bytesOf s).length = s.size := bytesOf_length s

def enc1 (e : S37) : List Int := [(e.f0.size : Int) % 256, (e.f1.size : Int) % 256] ++ bytesOf e.f0 ++ bytesOf e.f1
def ents (l : List S37) : List Int := l.flatMap enc1
def hdr (a b : Int) (n : Nat) : List Int := [a % 256, b / 256 % 256, b % 256, (n : Int) / 256 % 256, (n : Int) % 256]
def body (a b : Int) (l : List S37) : List Int := hdr a b l.length ++ ents l
def block (a b : Int) (l : List S37) : ByteArray := strOfNums (body a b l) ++ strOfNums (List.replicate (512 - (body a b l).length) 0)
def bad (a b : Int) : Bool := decide (a < 0) || decide (a > 255) || decide (b < 0) || decide (b > 65535)
instance (l : List S37) : Decidable (Srt l) := inferInstanceAs (Decidable (List.Pairwise _ _))
def wrS (a b : Int) (l : List S37) : ByteArray × Int :=
  if bad a b = true then (⟨#[]⟩, 1) else if l.any long = true ∨ wrap64 (tot l) > 507 then (⟨#[]⟩, 3) else if Srt l then (block a b l, 0) else (⟨#[]⟩, 4)
theorem enc1_len (e : S37) : ((enc1 e).length : Int) = sz e := by
  unfold enc1 sz; simp only [List.length_append, bytes_len, List.length_cons, List.length_nil]; omega
theorem ents_len (l : List S37) : ((ents l).length : Int) = tot l := by
  unfold ents
  induction l with
  | nil => rfl
  | cons e l ih => simp only [List.flatMap_cons, List.length_append, tot, Int.natCast_add, ih, enc1_len]
theorem hdr_len (a b : Int) (n : Nat) : (hdr a b n).length = 5 := rfl
theorem body_len (a b : Int) (l : List S37) : ((body a b l).length : Int) = 5 + tot l := by
  unfold body; rw [List.length_append, hdr_len, Int.natCast_add, ents_len]; rfl
theorem ents_snoc (l : List S37) (i : Nat) (h : i < l.length) : ents (l.take (i + 1)) = ents (l.take i) ++ enc1 l[i] := by
  rw [List.take_succ_eq_append_getElem h]; unfold ents; rw [List.flatMap_append, List.flatMap_cons, List.flatMap_nil, List.append_nil]
theorem block_size (a b : Int) (l : List S37) (h : tot l ≤ 507) : (block a b l).size = 512 := by
  have := body_len a b l
  have := tot0 l
  unfold block
  rw [ByteArray.size_append, son_size, son_size, List.length_replicate]; omega

theorem write_l0 (a b : Int) (l : List S37) (hl : l.length ≤ 4398046511104) (ht : tot l ≤ 507) (j : Nat) : ∀ (k i : Nat), i + j = l.length → j < k →
    page_Write.l0 k (hdr a b l.length ++ ents (l.take i)) l (l.length : Int) (i : Int) = some (block a b l, 0) := by
  induction j with
  | zero =>
    intro k i h hk
    obtain ⟨k, rfl⟩ : ∃ q, k = q + 1 := ⟨k - 1, by omega⟩
    have hb := body_len a b l
    have h0 := tot0 l
    have hw : wrap64 (512 - ((body a b l).length : Int)) = ((512 - (body a b l).length : Nat) : Int) := by rw [wrap_mid (by omega) (by omega)]; omega
    simp only [page_Write.l0]
    rw [if_neg (by omega), List.take_of_length_le (by omega), show hdr a b l.length ++ ents l = body a b l from rfl, hw]
    unfold strings_Repeat.f
    rw [if_pos ⟨by omega, by omega, by rw [Int.toNat_natCast]; show 1 * _ ≤ _; omega⟩, Option.bind_some, Int.toNat_natCast, rep_zero, if_pos (by rw [son_size, son_size, List.length_replicate]; omega)]
    rfl
  | succ j ih =>
    intro k i h hk
    obtain ⟨k, rfl⟩ : ∃ q, k = q + 1 := ⟨k - 1, by omega⟩
    have hlt : i < l.length := by omega
    have h1 := ents_len (l.take i)
    have h2 := tot_take_le l i
    have h3 := tot_snoc l i hlt
    have h4 := tot_take_le l (i + 1)
    have h5 : sz l[i] = 2 + (l[i].f0.size : Int) + (l[i].f1.size : Int) := rfl
    have h6 := tot0 (l.take i)
    simp only [page_Write.l0]
    rw [if_pos (by omega), if_pos (by omega), if_pos (by omega), rd_at l i hlt]
    simp only [Option.bind_some]
    rw [if_pos (by simp only [List.length_append, hdr_len, List.length_cons, List.length_nil]; omega), if_pos (by simp only [List.length_append, hdr_len, List.length_cons, List.length_nil]; omega), if_pos (by simp only [List.length_append, hdr_len, List.length_cons, List.length_nil, bytes_len]; omega), wn i (by omega)]
    have := ih k (i + 1) (by omega) (by omega)
    rw [ents_snoc l i hlt] at this
    unfold enc1 at this
    simpa only [List.append_assoc] using this
theorem tot_fits {l : List S37} (hl : l.length ≤ 4398046511104) (h : ¬ (l.any long = true ∨ wrap64 (tot l) > 507)) : Short l ∧ tot l ≤ 507 := by
  have h1 : Short l := by
    intro e he
    cases hc : long e
    · rfl
    · exact absurd (.inl (List.any_eq_true.2 ⟨e, he, hc⟩)) h
  have h2 := short_tot h1
  have h3 := tot0 l
  have h4 : ¬ wrap64 (tot l) > 507 := fun g => h (.inr g)
  rw [wrap_mid h3 (by omega)] at h4
  exact ⟨h1, by omega⟩
theorem write_j1 (a b : Int) (l : List S37) (hl : l.length ≤ 4398046511104) (x : Bool) (hx : x = true ↔ (l.any long = true ∨ wrap64 (tot l) > 507)) (k : Nat) (hk : l.length + 1 < k) :
    page_Write.j1 k x a b l = some (if l.any long = true ∨ wrap64 (tot l) > 507 then (⟨#[]⟩, 3) else if Srt l then (block a b l, 0) else (⟨#[]⟩, 4)) := by
  obtain ⟨k, rfl⟩ : ∃ q, k = q + 1 := ⟨k - 1, by omega⟩
  simp only [page_Write.j1]
  by_cases hc : l.any long = true ∨ wrap64 (tot l) > 507
  · rw [if_pos (hx.2 hc), if_pos hc]
  · rw [if_neg (fun g => hc (hx.1 g)), if_neg hc]
    obtain ⟨hs, ht⟩ := tot_fits hl hc
    obtain ⟨t, h1, h2⟩ := sorted_eq l hl k (by omega)
    rw [h1, Option.bind_some]
    by_cases hS : Srt l
    · rw [if_pos (h2.2 hS), if_pos hS, if_pos (by decide)]
      simp only [Option.bind_some]
      rw [if_pos (by simp)]
      have := write_l0 a b l hl ht l.length k 0 (by omega) (by omega)
      simpa [ents, hdr] using this
    · rw [if_neg (fun g => hS (h2.1 g)), if_neg hS]
theorem write_j0 (a b : Int) (l : List S37) (hl : l.length ≤ 4398046511104) (x : Bool) (hx : x = bad a b) (k : Nat) (hk : l.length + 2 < k) : page_Write.j0 k x a b l = some (wrS a b l) := by
  obtain ⟨k, rfl⟩ : ∃ q, k = q + 1 := ⟨k - 1, by omega⟩
  simp only [page_Write.j0]
  unfold wrS
  subst hx
  by_cases hb : bad a b = true
  · rw [if_pos hb, if_pos hb]
  · rw [if_neg hb, if_neg hb, any_eq l hl k (by omega), Option.bind_some]
    by_cases h1 : l.any long = true
    · rw [if_pos h1]
      exact write_j1 a b l hl true (by simp [h1]) k (by omega)
    · rw [if_neg h1, size_eq l hl k (by omega), Option.bind_some]
      exact write_j1 a b l hl _ (by simp [h1]) k (by omega)
theorem write_eq (a b : Int) (l : List S37) (hl : l.length ≤ 4398046511104) (k : Nat) (hk : l.length + 2 < k) : page_Write.f k a b l = some (wrS a b l) := by
  unfold page_Write.f
  by_cases h1 : a < 0
  · rw [if_pos h1]; exact write_j0 a b l hl true (by simp [bad, h1]) k hk
  · rw [if_neg h1]
    by_cases h2 : a > 255
    · rw [if_pos h2]; exact write_j0 a b l hl true (by simp [bad, h2]) k hk
    · rw [if_neg h2]
      by_cases h3 : b < 0
      · rw [if_pos h3]; exact write_j0 a b l hl true (by simp [bad, h3]) k hk
      · rw [if_neg h3]; exact write_j0 a b l hl _ (by unfold bad; rw [decide_eq_false h1, decide_eq_false h2, decide_eq_false h3]; rfl) k hk

end Go.Proofs.Ytffgodpmmipnkaa.Pg
namespace Go.Proofs.Ytffgodpmmipnkaa.Pg
set_option linter.unusedVariables false
set_option linter.unusedSimpArgs false
open Go.RowKit Go.Proofs.Ytffgodpmmipnkaa Go.Proofs.Ytffgodpmmipnkaa.X Go.Proofs.YtffgodpmmipnkaaW.PrintWords Go.Proofs.YtffgodpmmipnkaaW.PrintLast Go.Proofs.YtffgodpmmipnkaaW.PrintMore

theorem or_add (z c : Int) (h0 : 0 ≤ z) (h1 : z < 18014398509481984) (h2 : 0 ≤ c) (h3 : c < 256) : Go.bits .or .i64 (wrap64 (z * 256)) c = z * 256 + c := by
  have l : Go.bits .or .i64 (wrap64 (z * 256)) c = IntKind.i64.wrap ((BitVec.ofInt 64 (wrap64 (z * 256)) ||| BitVec.ofInt 64 c).toNat : Int) := rfl
  obtain ⟨a, rfl⟩ := Int.eq_ofNat_of_zero_le h0
  obtain ⟨b, rfl⟩ := Int.eq_ofNat_of_zero_le h2
  have hw : wrap64 ((a : Int) * 256) = ((a * 256 : Nat) : Int) := by unfold wrap64; omega
  rw [l, hw, BitVec.toNat_or, BitVec.ofInt_natCast, BitVec.ofInt_natCast, BitVec.toNat_ofNat, BitVec.toNat_ofNat, Nat.mod_eq_of_lt (by omega), Nat.mod_eq_of_lt (by omega)]
  have : a * 256 ||| b = a * 256 + b := by
    have := Nat.two_pow_add_eq_or_of_lt (i := 8) (b := b) (by omega) a
    rw [Nat.mul_comm] at this
    exact this.symm
  rw [this, i64_w]; unfold wrap64; omega
theorem bt_son (xs : List Int) (i : Nat) (c : Int) (h : xs[i]? = some c) (h0 : 0 ≤ c) (h1 : c < 256) : bt (strOfNums xs) (i : Int) = c := by
  obtain ⟨hi, hc⟩ := List.getElem?_eq_some_iff.1 h
  unfold bt
  rw [dif_pos (by rw [son_size]; omega)]
  have : (strOfNums xs)[(i : Int).toNat]'(by rw [son_size]; omega) = UInt8.ofNat c.toNat := by
    show (strOfNums xs).data[i]'_ = _
    simp [strOfNums, hc]
  rw [this]
  simp; omega
theorem bt_at' (s : ByteArray) (i : Nat) (h : i < s.size) : bt s (i : Int) = ((s[i]'h).toNat : Int) := by
  unfold bt
  rw [dif_pos (by rw [Int.toNat_natCast]; exact h)]
  simp only [Int.toNat_natCast]
theorem bt_extract (b : ByteArray) (i j m : Nat) (hm : i + m < j) (hj : j ≤ b.size) : bt (b.extract i j) (m : Int) = bt b ((i + m : Nat) : Int) := by
  rw [bt_at' _ _ (by rw [ByteArray.size_extract]; omega), bt_at' _ _ (by omega), ByteArray.getElem_extract]
theorem bt_left (a b : ByteArray) (i : Nat) (h : i < a.size) : bt (a ++ b) (i : Int) = bt a (i : Int) := by
  rw [bt_at' _ _ (by rw [ByteArray.size_append]; omega), bt_at' _ _ h, ByteArray.getElem_append_left h]
theorem bt_lt (b : ByteArray) (i : Int) : 0 ≤ bt b i ∧ bt b i < 256 := by have := bt_range b i; omega
theorem wbt (b : ByteArray) (i : Int) : wrap64 (bt b i) = bt b i := by have := bt_lt b i; exact wrap_mid this.1 (by omega)

abbrev Pg := Int × Int × List S37 × Int
def err : Pg := (0, 0, [], 4)
def prs : Nat → ByteArray → List S37 → Option (List S37)
  | 0, _, acc => some acc
  | c + 1, r, acc => if r.size < 2 ∨ (r.size : Int) < 2 + bt r 0 + bt r 1 then none else
    prs c (r.extract (2 + bt r 0 + bt r 1).toNat r.size) (acc ++ [⟨r.extract 2 (2 + bt r 0).toNat, r.extract (2 + bt r 0).toNat (2 + bt r 0 + bt r 1).toNat⟩])
def told (x : ByteArray) (a b : Int) : Option (List S37) → Pg
  | none => err
  | some l => if (wrS a b l).2 = 0 then if (wrS a b l).1 = x then (a, b, l, 0) else err else err
def rdS (x : ByteArray) : Pg := if x.size = 512 then told x (bt x 0) (bt x 1 * 256 + bt x 2) (prs (bt x 3 * 256 + bt x 4).toNat (x.extract 5 x.size) []) else err
theorem read_l0 (x : ByteArray) (n a b : Int) (hn : n ≤ 65536) (c : Nat) : ∀ (k i : Nat) (r : ByteArray) (acc : List S37), (i : Int) + c = n → r.size + acc.length ≤ 1000000 → r.size + acc.length + 4 < k →
    page_Read.l0 k x r n (i : Int) a b acc = some (told x a b (prs c r acc)) := by
  induction c with
  | zero =>
    intro k i r acc h hb hk
    obtain ⟨k, rfl⟩ : ∃ q, k = q + 1 := ⟨k - 1, by omega⟩
    simp only [page_Read.l0, prs]
    rw [if_neg (by omega), write_eq a b acc (by omega) k (by omega), Option.bind_some]
    unfold told
    simp only [toList_iff]
    by_cases h1 : (wrS a b acc).2 = 0
    · rw [if_pos h1, if_pos h1]
      by_cases h2 : (wrS a b acc).1 = x
      · rw [if_pos h2, if_pos h2]
      · rw [if_neg h2, if_neg h2]; rfl
    · rw [if_neg h1, if_neg h1]; rfl
  | succ c ih =>
    intro k i r acc h hb hk
    obtain ⟨k, rfl⟩ : ∃ q, k = q + 1 := ⟨k - 1, by omega⟩
    have h0 := bt_lt r 0
    have h1 := bt_lt r 1
    have e1 : wrap64 (2 + bt r 0) = 2 + bt r 0 := wrap_mid (by omega) (by omega)
    have e2 : wrap64 (2 + bt r 0 + bt r 1) = 2 + bt r 0 + bt r 1 := wrap_mid (by omega) (by omega)
    simp only [page_Read.l0, prs, wbt, e1, e2]
    rw [if_pos (by omega)]
    by_cases c1 : r.size < 2
    · rw [if_pos (by omega), if_pos (.inl c1)]; rfl
    · rw [if_neg (by omega), if_pos (by omega), if_pos (by omega)]
      by_cases c2 : (r.size : Int) < 2 + bt r 0 + bt r 1
      · rw [if_pos c2, if_pos (.inr c2)]; rfl
      · rw [if_neg c2, if_pos (by omega), if_pos (by omega), if_pos (by omega), if_pos (by omega), if_pos (by omega), if_pos (by omega), if_pos (by omega), if_neg (by omega), wn i (by omega)]
        have hr : (r.extract (2 + bt r 0 + bt r 1).toNat r.size).size + 2 ≤ r.size := by rw [ByteArray.size_extract]; omega
        exact ih k (i + 1) _ _ (by omega) (by rw [List.length_append, List.length_singleton]; omega) (by rw [List.length_append, List.length_singleton]; omega)
theorem read_eq (x : ByteArray) (k : Nat) (hk : 1000 < k) : page_Read.f k x = some (rdS x) := by
  unfold page_Read.f rdS
  by_cases h : x.size = 512
  · have h1 := bt_lt x 1
    have h2 := bt_lt x 2
    have h3 := bt_lt x 3
    have h4 := bt_lt x 4
    rw [if_pos (by omega), if_pos (by omega), if_pos (by omega), if_pos (by omega), if_pos (by omega), if_pos (by omega), if_pos (by omega), if_pos h]
    simp only [wbt]
    rw [or_add _ _ h3.1 (by omega) h4.1 h4.2, or_add _ _ h1.1 (by omega) h2.1 h2.2]
    have := read_l0 x (bt x 3 * 256 + bt x 4) (bt x 0) (bt x 1 * 256 + bt x 2) (by omega) (bt x 3 * 256 + bt x 4).toNat k 0 (x.extract 5 x.size) [] (by omega) (by rw [ByteArray.size_extract]; simp; omega) (by rw [ByteArray.size_extract]; simp; omega)
    exact this
  · rw [if_neg (by omega), if_neg h]; rfl
/-! there and back -/
theorem son_two (K V : Nat) (hK : K < 256) (hV : V < 256) (y : ByteArray) : bt (strOfNums [(K : Int), (V : Int)] ++ y) 0 = K ∧ bt (strOfNums [(K : Int), (V : Int)] ++ y) 1 = V := by
  have s : (strOfNums [(K : Int), (V : Int)]).size = 2 := son_size _
  constructor
  · have := bt_left (strOfNums [(K : Int), (V : Int)]) y 0 (by omega)
    rw [show ((0 : Nat) : Int) = 0 from rfl] at this
    rw [this]
    exact bt_son [(K : Int), (V : Int)] 0 K rfl (by omega) (by omega)
  · have := bt_left (strOfNums [(K : Int), (V : Int)]) y 1 (by omega)
    rw [show ((1 : Nat) : Int) = 1 from rfl] at this
    rw [this]
    exact bt_son [(K : Int), (V : Int)] 1 V rfl (by omega) (by omega)
theorem extract_mid (a b c : ByteArray) (i j : Nat) (hi : i = a.size) (hj : j = a.size + b.size) : (a ++ (b ++ c)).extract i j = b := by
  apply toList_inj
  rw [toList_data, toList_data]
  simp only [ByteArray.data_extract, ByteArray.data_append, Array.toList_extract, Array.toList_append, List.extract_eq_take_drop]
  subst hi hj
  rw [show a.size = a.data.toList.length from rfl, List.drop_left, show a.data.toList.length + b.size - a.data.toList.length = b.data.toList.length by show _ = b.size; omega, List.take_left]
theorem extract_tail (a b : ByteArray) (i j : Nat) (hi : i = a.size) (hj : j = a.size + b.size) : (a ++ b).extract i j = b := ByteArray.extract_append_eq_right hi hj
theorem prs_ents (y : ByteArray) : ∀ (l : List S37) (acc : List S37), Short l → prs l.length (strOfNums (ents l) ++ y) acc = some (acc ++ l)
  | [], acc, _ => by simp [prs]
  | e :: l, acc, h => by
    have he := h e List.mem_cons_self
    have hl : Short l := fun x hx => h x (List.mem_cons_of_mem _ hx)
    have hb : e.f0.size ≤ 100 ∧ e.f1.size ≤ 150 := by
      unfold long at he
      simp only [Bool.or_eq_false_iff, decide_eq_false_iff_not] at he; omega
    have e1 : strOfNums (ents (e :: l)) ++ y = strOfNums [(e.f0.size : Int), (e.f1.size : Int)] ++ (e.f0 ++ (e.f1 ++ (strOfNums (ents l) ++ y))) := by
      have : ents (e :: l) = enc1 e ++ ents l := by unfold ents; rw [List.flatMap_cons]
      rw [this]; unfold enc1
      rw [Int.emod_eq_of_lt (by omega) (by omega), Int.emod_eq_of_lt (by omega) (by omega), son_append, son_append, son_append, son_bytesOf, son_bytesOf]
      simp only [ByteArray.append_assoc]
    obtain ⟨b0, b1⟩ := son_two e.f0.size e.f1.size (by omega) (by omega) (e.f0 ++ (e.f1 ++ (strOfNums (ents l) ++ y)))
    have s2 : (strOfNums [(e.f0.size : Int), (e.f1.size : Int)]).size = 2 := son_size _
    rw [e1]
    simp only [List.length_cons, prs]
    rw [b0, b1]
    have sz : (strOfNums [(e.f0.size : Int), (e.f1.size : Int)] ++ (e.f0 ++ (e.f1 ++ (strOfNums (ents l) ++ y)))).size = 2 + e.f0.size + e.f1.size + (strOfNums (ents l) ++ y).size := by
      rw [ByteArray.size_append, ByteArray.size_append, ByteArray.size_append, s2]; omega
    rw [sz, if_neg (by omega)]
    have t1 : (2 + (e.f0.size : Int)).toNat = 2 + e.f0.size := by omega
    have t2 : (2 + (e.f0.size : Int) + (e.f1.size : Int)).toNat = 2 + e.f0.size + e.f1.size := by omega
    rw [t1, t2, extract_mid _ e.f0 _ 2 (2 + e.f0.size) s2.symm (by rw [s2])]
    have x1 : (strOfNums [(e.f0.size : Int), (e.f1.size : Int)] ++ (e.f0 ++ (e.f1 ++ (strOfNums (ents l) ++ y)))).extract (2 + e.f0.size) (2 + e.f0.size + e.f1.size) = e.f1 := by
      rw [← ByteArray.append_assoc]
      exact extract_mid _ e.f1 _ _ _ (by rw [ByteArray.size_append, s2]) (by rw [ByteArray.size_append, s2])
    have x2 : (strOfNums [(e.f0.size : Int), (e.f1.size : Int)] ++ (e.f0 ++ (e.f1 ++ (strOfNums (ents l) ++ y)))).extract (2 + e.f0.size + e.f1.size) (2 + e.f0.size + e.f1.size + (strOfNums (ents l) ++ y).size) = strOfNums (ents l) ++ y := by
      rw [← ByteArray.append_assoc, ← ByteArray.append_assoc]
      exact extract_tail _ _ _ _ (by simp only [ByteArray.size_append, s2]) (by simp only [ByteArray.size_append, s2])
    rw [x1, x2, prs_ents y l _ hl, List.append_assoc]; rfl
theorem head_reads (a b : Int) (n : Nat) (y : ByteArray) (ha : 0 ≤ a ∧ a ≤ 255) (hb : 0 ≤ b ∧ b ≤ 65535) (hn : n ≤ 65535) :
    bt (strOfNums (hdr a b n) ++ y) 0 = a ∧ bt (strOfNums (hdr a b n) ++ y) 1 * 256 + bt (strOfNums (hdr a b n) ++ y) 2 = b ∧ bt (strOfNums (hdr a b n) ++ y) 3 * 256 + bt (strOfNums (hdr a b n) ++ y) 4 = n := by
  have s : (strOfNums (hdr a b n)).size = 5 := son_size _
  have g : ∀ (i : Nat) (c : Int), i < 5 → (hdr a b n)[i]? = some c → 0 ≤ c → c < 256 → bt (strOfNums (hdr a b n) ++ y) (i : Int) = c := by
    intro i c hi hc h0 h1
    rw [bt_left _ _ _ (by omega)]
    exact bt_son _ i c hc h0 h1
  have g0 := g 0 _ (by omega) rfl (by omega) (by omega)
  have g1 := g 1 _ (by omega) rfl (by omega) (by omega)
  have g2 := g 2 _ (by omega) rfl (by omega) (by omega)
  have g3 := g 3 _ (by omega) rfl (by omega) (by omega)
  have g4 := g 4 _ (by omega) rfl (by omega) (by omega)
  rw [show ((0 : Nat) : Int) = 0 from rfl] at g0
  rw [show ((1 : Nat) : Int) = 1 from rfl] at g1
  rw [show ((2 : Nat) : Int) = 2 from rfl] at g2
  rw [show ((3 : Nat) : Int) = 3 from rfl] at g3
  rw [show ((4 : Nat) : Int) = 4 from rfl] at g4
  rw [g0, g1, g2, g3, g4]
  omega
theorem rd_made (a b : Int) (l : List S37) (y : ByteArray) (ha : 0 ≤ a ∧ a ≤ 255) (hb : 0 ≤ b ∧ b ≤ 65535) (hs : Short l) (hn : l.length ≤ 65535) (hz : (strOfNums (hdr a b l.length) ++ (strOfNums (ents l) ++ y)).size = 512) :
    rdS (strOfNums (hdr a b l.length) ++ (strOfNums (ents l) ++ y)) = told (strOfNums (hdr a b l.length) ++ (strOfNums (ents l) ++ y)) a b (some l) := by
  obtain ⟨h0, h1, h2⟩ := head_reads a b l.length (strOfNums (ents l) ++ y) ha hb hn
  have s : (strOfNums (hdr a b l.length)).size = 5 := son_size _
  unfold rdS
  rw [if_pos hz, h0, h1, h2, Int.toNat_natCast, extract_tail _ _ 5 _ s.symm (by rw [ByteArray.size_append]), prs_ents y l [] hs]
  rfl
def Ok (a b : Int) (l : List S37) : Prop := (0 ≤ a ∧ a ≤ 255) ∧ (0 ≤ b ∧ b ≤ 65535) ∧ Short l ∧ tot l ≤ 507 ∧ Srt l
theorem wr_ok {a b : Int} {l : List S37} (h : Ok a b l) : wrS a b l = (block a b l, 0) := by
  obtain ⟨ha, hb, hs, ht, hS⟩ := h
  have h0 := tot0 l
  unfold wrS
  rw [if_neg (by unfold bad; simp; omega), if_neg (by rw [short_any hs, wrap_mid h0 (by omega)]; rintro (h | h); cases h; omega), if_pos hS]
theorem block_parts (a b : Int) (l : List S37) : block a b l = strOfNums (hdr a b l.length) ++ (strOfNums (ents l) ++ strOfNums (List.replicate (512 - (body a b l).length) 0)) := by
  unfold block
  conv => lhs; arg 1; unfold body
  rw [son_append, ByteArray.append_assoc]
theorem rd_block {a b : Int} {l : List S37} (h : Ok a b l) : rdS (block a b l) = (a, b, l, 0) := by
  have hw := wr_ok h
  obtain ⟨ha, hb, hs, ht, hS⟩ := h
  have hn := tot_pos l
  have hz := block_size a b l ht
  rw [block_parts] at hz ⊢
  rw [rd_made a b l _ ha hb hs (by omega) hz, ← block_parts]
  unfold told
  simp only [hw, if_true]
theorem rd_size (x : ByteArray) (h : x.size ≠ 512) : rdS x = err := by unfold rdS; rw [if_neg h]
theorem rd_turned {a b : Int} {l : List S37} (h : Ok a b l) (hlt : 5 + tot l < 512) : rdS ((block a b l).extract 0 511 ++ ⟨#[1]⟩) = err := by
  have hw := wr_ok h
  obtain ⟨ha, hb, hs, ht, hS⟩ := h
  have hn := tot_pos l
  have hbl := body_len a b l
  obtain ⟨m, hm⟩ : ∃ m, 512 - (body a b l).length = m + 1 := ⟨512 - (body a b l).length - 1, by omega⟩
  have hblk : block a b l = strOfNums (body a b l ++ List.replicate m 0) ++ strOfNums [0] := by
    unfold block
    rw [hm, List.replicate_succ', ← son_append, ← son_append, List.append_assoc]
  have hsz : (strOfNums (body a b l ++ List.replicate m 0)).size = 511 := by
    rw [son_size, List.length_append, List.length_replicate]; omega
  have hex : (block a b l).extract 0 511 = strOfNums (body a b l ++ List.replicate m 0) := by
    rw [hblk]; exact ByteArray.extract_append_eq_left hsz.symm
  have h1 : (⟨#[1]⟩ : ByteArray) = strOfNums [1] := rfl
  have hx : (block a b l).extract 0 511 ++ ⟨#[1]⟩ = strOfNums (hdr a b l.length) ++ (strOfNums (ents l) ++ strOfNums (List.replicate m 0 ++ [1])) := by
    rw [hex, h1, ← son_append, ← son_append, ← son_append]
    unfold body
    simp only [List.append_assoc]
  have hxs : ((block a b l).extract 0 511 ++ ⟨#[1]⟩).size = 512 := by
    rw [ByteArray.size_append, hex, hsz]; rfl
  have hne : block a b l ≠ (block a b l).extract 0 511 ++ ⟨#[1]⟩ := by
    intro he
    rw [hex, h1] at he
    rw [hblk] at he
    have hd := congrArg (fun z : ByteArray => bt z 511) he
    have g : ∀ c : Int, 0 ≤ c → c < 256 → bt (strOfNums (body a b l ++ List.replicate m 0) ++ strOfNums [c]) 511 = c := by
      intro c h0 h2
      rw [← son_append]
      have hl : (body a b l ++ List.replicate m 0).length = 511 := by rw [← son_size]; exact hsz
      have := bt_son (body a b l ++ List.replicate m 0 ++ [c]) 511 c (by rw [List.getElem?_append_right (by omega), hl]; rfl) h0 h2
      exact this
    rw [g 0 (by omega) (by omega), g 1 (by omega) (by omega)] at hd
    omega
  rw [hx] at hxs hne ⊢
  rw [rd_made a b l _ ha hb hs (by omega) hxs]
  unfold told
  simp only [hw, if_true]
  rw [if_neg hne]
theorem rd_cases (x : ByteArray) : rdS x = err ∨ (∃ a b l, rdS x = (a, b, l, 0) ∧ wrS a b l = (x, 0) ∧ l.length ≤ 1000) := by
  unfold rdS
  by_cases h : x.size = 512
  · rw [if_pos h]
    have len : ∀ (c : Nat) (r : ByteArray) (acc l : List S37), prs c r acc = some l → l.length ≤ acc.length + r.size := by
      intro c
      induction c with
      | zero => intro r acc l hp; simp only [prs, Option.some.injEq] at hp; subst hp; omega
      | succ c ih =>
        intro r acc l hp
        simp only [prs] at hp
        have h0 := bt_lt r 0
        have h1 := bt_lt r 1
        by_cases hc : r.size < 2 ∨ (r.size : Int) < 2 + bt r 0 + bt r 1
        · rw [if_pos hc] at hp; cases hp
        · rw [if_neg hc] at hp
          have := ih _ _ _ hp
          rw [ByteArray.size_extract, List.length_append, List.length_singleton] at this
          omega
    cases hp : prs (bt x 3 * 256 + bt x 4).toNat (x.extract 5 x.size) [] with
    | none => exact .inl rfl
    | some l =>
      have hl := len _ _ _ _ hp
      rw [ByteArray.size_extract, List.length_nil] at hl
      unfold told
      simp only
      by_cases h1 : (wrS (bt x 0) (bt x 1 * 256 + bt x 2) l).2 = 0
      · by_cases h2 : (wrS (bt x 0) (bt x 1 * 256 + bt x 2) l).1 = x
        · rw [if_pos h1, if_pos h2]
          exact .inr ⟨_, _, _, rfl, Prod.ext h2 h1, by omega⟩
        · rw [if_pos h1, if_neg h2]; exact .inl rfl
      · rw [if_neg h1]; exact .inl rfl
  · rw [if_neg h]; exact .inl rfl
end Go.Proofs.Ytffgodpmmipnkaa.Pg
namespace Go.Proofs.Ytffgodpmmipnkaa.Pg
set_option linter.unusedVariables false
set_option linter.unusedSimpArgs false
open Go.RowKit Go.Proofs.Ytffgodpmmipnkaa Go.Proofs.Ytffgodpmmipnkaa.X Go.Proofs.YtffgodpmmipnkaaW.PrintWords Go.Proofs.YtffgodpmmipnkaaW.PrintLast Go.Proofs.YtffgodpmmipnkaaW.PrintMore

def e1 : S37 := ⟨⟨#[97]⟩, ⟨#[120, 121]⟩⟩
def l2 : List S37 := [⟨⟨#[97]⟩, ⟨#[49]⟩⟩, ⟨⟨#[99]⟩, ⟨#[50]⟩⟩]
theorem kl_data (a b : ByteArray) : kl a b ↔ Op.bytesLess a.data.toList b.data.toList = true := by unfold kl; rw [toList_data, toList_data]
theorem srt_l2 : Srt l2 := by
  refine List.Pairwise.cons ?_ (List.Pairwise.cons (by simp) List.Pairwise.nil)
  intro b hb
  simp only [List.mem_singleton] at hb
  subst hb
  rw [kl_data]; rfl
theorem f_c : fnd l2 ⟨#[99]⟩ = 1 := by
  unfold l2
  rw [fnd_cons, if_pos (by rw [kl_data]; rfl), fnd_cons, if_neg (by rw [kl_data]; decide)]
theorem f_b : fnd l2 ⟨#[98]⟩ = 1 := by
  unfold l2
  rw [fnd_cons, if_pos (by rw [kl_data]; rfl), fnd_cons, if_neg (by rw [kl_data]; decide)]
theorem f_a : fnd l2 ⟨#[97]⟩ = 0 := by
  unfold l2
  rw [fnd_cons, if_neg (by rw [kl_data]; decide)]
theorem i_c : isat l2 ⟨#[99]⟩ = true := by unfold isat; rw [f_c]; decide +kernel
theorem i_b : isat l2 ⟨#[98]⟩ = false := by unfold isat; rw [f_b]; decide +kernel
theorem i_a : isat l2 ⟨#[97]⟩ = true := by unfold isat; rw [f_a]; decide +kernel
def l3 : List S37 := [⟨⟨#[97]⟩, ⟨#[49]⟩⟩, ⟨⟨#[98]⟩, ⟨#[51]⟩⟩, ⟨⟨#[99]⟩, ⟨#[50]⟩⟩]
theorem put_b : putL l2 ⟨#[98]⟩ ⟨#[51]⟩ = l3 := by unfold putL lo hi; rw [f_b, i_b]; rfl
theorem del_a : delL l2 ⟨#[97]⟩ = l2.drop 1 := by unfold delL lo hi; rw [f_a, i_a]; rfl
theorem cut_3 : cutAt l3 = 1 := by decide +kernel
theorem split_3 : splitL l3 = (l3.take 1, l3.drop 1) := by unfold splitL; rw [if_neg (by decide), cut_3]
theorem ok_1 : Ok 1 258 [e1] := by
  refine ⟨by omega, by omega, ?_, by decide, ?_⟩
  · intro e he
    simp only [List.mem_singleton] at he
    subst he; decide
  · exact List.Pairwise.cons (by simp) List.Pairwise.nil
theorem head_12 : ((block 1 258 [e1]).extract 0 12).toList = ([1, 1, 2, 0, 1, 1, 2, 97, 120, 121, 0, 0] : List UInt8) := by
  rw [toList_data]
  decide +kernel
theorem first_true (k : Nat) (hk : 20000 < k) : cofferlaw10_first.f k = some true := by
  unfold cofferlaw10_first.f
  rw [write_eq 1 258 _ (by simp) k (by simp; omega), show wrS 1 258 [(⟨(⟨#[97]⟩ : ByteArray), (⟨#[120, 121]⟩ : ByteArray)⟩ : S37)] = (block 1 258 [e1], 0) from wr_ok ok_1, Option.bind_some]
  simp only []
  rw [read_eq _ k (by omega), rd_block ok_1]
  simp only [Option.bind_some]
  rw [show ([(⟨(⟨#[97]⟩ : ByteArray), (⟨#[49]⟩ : ByteArray)⟩ : S37), (⟨(⟨#[99]⟩ : ByteArray), (⟨#[50]⟩ : ByteArray)⟩ : S37)] : List S37) = l2 from rfl]
  have n2 : l2.length = 2 := rfl
  rw [find_eq srt_l2 _ (by rw [n2]; omega) k (by rw [n2]; omega), Option.bind_some, put_eq srt_l2 _ _ (by rw [n2]; omega) k (by rw [n2]; omega), Option.bind_some, del_eq srt_l2 _ (by rw [n2]; omega) k (by rw [n2]; omega), Option.bind_some, put_b, split_eq l3 (by decide) (by decide) k (by show 3 < k; omega), Option.bind_some, read_eq _ k (by omega), Option.bind_some, rd_size ⟨#[]⟩ (by decide), split_3, f_c, i_c, i_a, del_a]
  have hz := block_size 1 258 [e1] (by decide)
  simp only [hz, head_12, if_true]
  rw [if_pos (by decide), if_pos (by decide), if_pos (by decide), show ([(⟨(⟨#[97]⟩ : ByteArray), (⟨#[120, 121]⟩ : ByteArray)⟩ : S37)] : List S37) = [e1] from rfl, same_self [e1] (by simp) k (by simp; omega), Option.bind_some, same_self (l2.drop 1) (by decide) k (by show 1 < k; omega), Option.bind_some]
  simp only [if_true]
  rw [if_pos (by decide), if_pos (by decide), if_pos (by decide), if_pos (by rw [toList_data]; rfl), if_pos (by decide), if_pos (by decide), if_pos (by decide)]
  rfl

theorem and_mask (x : Int) (m : Nat) (hm : m < 65536) : 0 ≤ Go.bits .and .i64 x (m : Int) ∧ Go.bits .and .i64 x (m : Int) ≤ m := by
  have e : Go.bits .and .i64 x (m : Int) = IntKind.i64.wrap ((BitVec.ofInt 64 x &&& BitVec.ofInt 64 (m : Int)).toNat : Int) := rfl
  have h : (BitVec.ofInt 64 x &&& BitVec.ofInt 64 (m : Int)).toNat ≤ m := by
    rw [BitVec.toNat_and, BitVec.ofInt_natCast, BitVec.toNat_ofNat, Nat.mod_eq_of_lt (by omega)]
    exact Nat.and_le_right
  rw [e, i64_w]
  generalize (BitVec.ofInt 64 x &&& BitVec.ofInt 64 (m : Int)).toNat = n at *
  rw [wrap_mid (by omega) (by omega)]
  omega
end Go.Proofs.Ytffgodpmmipnkaa.Pg
