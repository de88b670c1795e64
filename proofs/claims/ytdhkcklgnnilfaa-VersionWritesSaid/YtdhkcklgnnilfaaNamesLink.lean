import Derived.Test.YtdhkcklgnnilfaaX3
import Derived.Test.YtdhkcklgnnilfaaX4
import Derived.Test.YtdhkcklgnnilfaaX5
import Derived.Test.YtdhkcklgnnilfaaX6
import Derived.Test.YtdhkcklgnnilfaaX7
import Derived.Test.YtdhkcklgnnilfaaX10
import Derived.Test.YtdhkcklgnnilfaaX11
import Derived.Test.YtdhkcklgnnilfaaX12
import Derived.Test.YtdhkcklgnnilfaaX13
import Derived.Test.YtdhkcklgnnilfaaX14
import Derived.Test.YtdhkcklgnnilfaaZWords
/- What the printed functions of the names come to: small names byte by byte; metadata: each pair right, the names rising. -/
namespace Go.Proofs.Ytdhkcklgnnilfaa.Link
set_option linter.unusedVariables false
set_option linter.unusedSimpArgs false
open Go.RowKit Go.Proofs.Ytdhkcklgnnilfaa.X Go.Proofs.YtdhkcklgnnilfaaW.PrintWords Go.Proofs.YtdhkcklgnnilfaaW.PrintLast
open Go.Proofs.Ytdhkcklgnnilfaa

theorem less_trans : ∀ a b c : List UInt8, Op.bytesLess a b = true → Op.bytesLess b c = true → Op.bytesLess a c = true
  | _, [], _, h, _ => by simp [Op.bytesLess] at h
  | [], _ :: _, [], _, h => by simp [Op.bytesLess] at h
  | [], _ :: _, _ :: _, _, _ => rfl
  | _ :: _, _ :: _, [], _, h => by simp [Op.bytesLess] at h
  | x :: a, y :: b, z :: c, h1, h2 => by
    simp only [Op.bytesLess, Bool.or_eq_true, decide_eq_true_eq, Bool.and_eq_true, beq_iff_eq] at h1 h2 ⊢
    have ih := less_trans a b c
    simp only [UInt8.lt_iff_toNat_lt] at h1 h2 ⊢
    rcases h1 with h1 | ⟨rfl, h1⟩
    · rcases h2 with h2 | ⟨rfl, h2⟩
      · exact Or.inl (by omega)
      · exact Or.inl h1
    · rcases h2 with h2 | ⟨rfl, h2⟩
      · exact Or.inl h2
      · exact Or.inr ⟨rfl, ih h1 h2⟩

theorem toList_len (s : ByteArray) : s.toList.length = s.size := by
  rw [Go.ByteArray.toList_eq]; simp
/-- A small name of at most m bytes. -/
def smallB (s : ByteArray) (m : Int) : Bool := nfrom s s.size 0 && !(s.toList.isEmpty) && decide ((s.size : Int) ≤ m)
theorem empty_iff (s : ByteArray) : s.toList.isEmpty = true ↔ s.size = 0 := by
  rw [List.isEmpty_iff_length_eq_zero, toList_len]
theorem nil_iff (s : ByteArray) : s.toList = ([] : List UInt8) ↔ s.size = 0 := by
  rw [← toList_len, List.length_eq_zero_iff]
theorem ref_small_l0 (s : ByteArray) (m : Int) (hs : s.size ≤ 140737488351232) (d : Nat) : ∀ (k i : Nat), i + d = s.size → d < k → cofferref12_small.l0 k s m (i : Int) = some (nfrom s d i && !(s.toList.isEmpty) && decide ((s.size : Int) ≤ m)) := by
  induction d with
  | zero =>
    intro k i h hk
    obtain ⟨k, rfl⟩ : ∃ q, k = q + 1 := ⟨k - 1, by omega⟩
    simp only [cofferref12_small.l0]
    rw [if_neg (by omega)]
    by_cases h1 : (s.size : Int) ≥ 1
    · have he : s.toList.isEmpty = false := by rw [Bool.eq_false_iff, Ne, empty_iff]; omega
      rw [if_pos h1, he]; simp [nfrom]
    · have he : s.toList.isEmpty = true := by rw [empty_iff]; omega
      rw [if_neg h1, he]; simp [nfrom]
  | succ d ih =>
    intro k i h hk
    obtain ⟨k, rfl⟩ : ∃ q, k = q + 1 := ⟨k - 1, by omega⟩
    have ih' := ih k (i + 1) (by omega) (by omega)
    have hw : wrap64 ((i : Int) + 1) = ((i + 1 : Nat) : Int) := by unfold wrap64; omega
    simp only [cofferref12_small.l0]
    rw [if_pos (by omega), if_pos (by omega), hw, ih']
    simp only [nfrom]
    have hb := bt_range s i
    generalize bt s (i : Int) = c at *
    unfold nbyte
    by_cases h1 : c = 45
    · rw [if_pos h1]; simp [h1]
    · rw [if_neg h1]
      by_cases h2 : c < 97
      · rw [if_pos h2]
        by_cases h3 : c < 48
        · rw [if_pos h3]
          have : decide (97 ≤ c) = false := by simp; omega
          have e2 : decide (48 ≤ c) = false := by simp; omega
          simp [this, e2, h1]
        · rw [if_neg h3]
          by_cases h4 : c > 57
          · rw [if_pos h4]
            have : decide (97 ≤ c) = false := by simp; omega
            have e2 : decide (c ≤ 57) = false := by simp; omega
            simp [this, e2, h1]
          · rw [if_neg h4]
            have : decide (48 ≤ c) = true := by simp; omega
            have e2 : decide (c ≤ 57) = true := by simp; omega
            simp [this, e2]
      · rw [if_neg h2]
        by_cases h5 : c > 122
        · rw [if_pos h5, if_neg (by omega), if_pos (by omega)]
          have : decide (c ≤ 122) = false := by simp; omega
          have e2 : decide (c ≤ 57) = false := by simp; omega
          simp [this, e2, h1]
        · rw [if_neg h5]
          have : decide (97 ≤ c) = true := by simp; omega
          have e2 : decide (c ≤ 122) = true := by simp; omega
          simp [this, e2]
theorem ref_small (s : ByteArray) (m : Int) (hs : s.size ≤ 140737488351232) (k : Nat) (hk : s.size < k) : cofferref12_small.f k s m = some (smallB s m) := by
  unfold cofferref12_small.f
  exact ref_small_l0 s m hs s.size k 0 (by omega) hk
theorem names_small (s : ByteArray) (m : Int) : names_small.f s m = some (smallB s m) := rfl
theorem key_eq (s : ByteArray) : names_Key.f s = cofferref12_Key.f s := by
  unfold names_Key.f cofferref12_Key.f
  by_cases h : s.size = 0
  · rw [if_pos ((nil_iff s).2 h), if_pos (by omega)]
  · have h2 : ¬ (s.size : Int) < 1 := by omega
    rw [if_neg (fun z => h ((nil_iff s).1 z)), if_neg h2]
/-- A right pair. -/
def pairB (p : S31) : Bool := smallB p.f0 16 && decide ((p.f1.size : Int) ≤ 64)
def metaB : List UInt8 → List S31 → Bool
  | _, [] => true
  | last, p :: l => pairB p && Op.bytesLess last p.f0.toList && metaB p.f0.toList l
theorem rd_at (xs : List S31) (i : Nat) (h : i < xs.length) : rd_T31 xs (i : Int) = xs[i] := by
  unfold rd_T31
  rw [Int.toNat_natCast, List.getD_eq_getElem?_getD, List.getElem?_eq_getElem h]; rfl
theorem meta_l0 (xs : List S31) (hx : xs.length ≤ 140737488351232) (d : Nat) : ∀ (k i : Nat) (last : ByteArray), i + d = xs.length → d < k → names_Meta.l0 k last xs (xs.length : Int) (i : Int) = some (if metaB last.toList (xs.drop i) = true then 0 else 62) := by
  induction d with
  | zero =>
    intro k i last h hk
    obtain ⟨k, rfl⟩ : ∃ q, k = q + 1 := ⟨k - 1, by omega⟩
    simp only [names_Meta.l0]
    rw [if_neg (by omega), List.drop_of_length_le (by omega)]; rfl
  | succ d ih =>
    intro k i last h hk
    obtain ⟨k, rfl⟩ : ∃ q, k = q + 1 := ⟨k - 1, by omega⟩
    have hlt : i < xs.length := by omega
    have hw : wrap64 ((i : Int) + 1) = ((i + 1 : Nat) : Int) := by unfold wrap64; omega
    simp only [names_Meta.l0]
    rw [if_pos (by omega), if_pos (by omega), if_pos (by omega), rd_at xs i hlt, names_small, hw, ih k (i + 1) _ (by omega) (by omega), List.drop_eq_getElem_cons hlt]
    simp only [Option.bind_some]
    have hm : metaB last.toList (xs[i] :: xs.drop (i + 1)) = ((smallB xs[i].f0 16 && decide ((xs[i].f1.size : Int) ≤ 64)) && Op.bytesLess last.toList xs[i].f0.toList && metaB xs[i].f0.toList (xs.drop (i + 1))) := rfl
    by_cases h1 : smallB xs[i].f0 16 = true
    · rw [if_pos h1]
      by_cases h2 : (xs[i].f1.size : Int) > 64
      · have hz : decide ((xs[i].f1.size : Int) ≤ 64) = false := by simp; omega
        rw [hz, Bool.and_false, Bool.false_and, Bool.false_and] at hm
        rw [if_pos h2, hm]; rfl
      · have hz : decide ((xs[i].f1.size : Int) ≤ 64) = true := by simp; omega
        rw [h1, hz, Bool.true_and, Bool.true_and] at hm
        rw [if_neg h2]
        by_cases h3 : Op.bytesLess last.toList xs[i].f0.toList = true
        · rw [h3, Bool.true_and] at hm
          rw [if_pos h3, hm]
        · have h3' : Op.bytesLess last.toList xs[i].f0.toList = false := by simpa using h3
          rw [h3', Bool.false_and] at hm
          rw [if_neg h3, hm]; rfl
    · have h1' : smallB xs[i].f0 16 = false := by simpa using h1
      rw [h1', Bool.false_and, Bool.false_and, Bool.false_and] at hm
      rw [if_neg h1, hm]; rfl
/-- What Meta tells. -/
def metaOk (l : List S31) : Bool := decide (l.length ≤ 8) && metaB [] l
theorem meta_eq (l : List S31) (hl : l.length ≤ 140737488351232) (k : Nat) (hk : l.length < k) : names_Meta.f k l = some (if metaOk l = true then 0 else 62) := by
  unfold names_Meta.f metaOk
  by_cases h : (l.length : Int) > 8
  · have : decide (l.length ≤ 8) = false := by simp; omega
    rw [if_pos h, this]; simp
  · have : decide (l.length ≤ 8) = true := by simp; omega
    rw [if_neg h, this]
    have := meta_l0 l hl l.length k 0 ⟨#[]⟩ (by omega) hk
    rw [List.drop_zero] at this
    have e0 : (⟨#[]⟩ : ByteArray).toList = [] := by rw [Go.ByteArray.toList_eq]
    rw [e0] at this
    simp only [Bool.true_and]
    exact this
theorem metaB_iff : ∀ (l : List S31) (last : List UInt8), metaB last l = true ↔ (∀ p ∈ l, pairB p = true ∧ Op.bytesLess last p.f0.toList = true) ∧ l.Pairwise (fun a b => Op.bytesLess a.f0.toList b.f0.toList = true)
  | [], last => by simp [metaB]
  | p :: l, last => by
    simp only [metaB, Bool.and_eq_true, List.mem_cons, forall_eq_or_imp, List.pairwise_cons, metaB_iff l]
    constructor
    · rintro ⟨⟨h1, h2⟩, h3, h4⟩
      exact ⟨⟨⟨h1, h2⟩, fun q hq => ⟨(h3 q hq).1, less_trans _ _ _ h2 (h3 q hq).2⟩⟩, fun q hq => (h3 q hq).2, h4⟩
    · rintro ⟨⟨⟨h1, h2⟩, h3⟩, h4, h5⟩
      exact ⟨⟨h1, h2⟩, fun q hq => ⟨(h3 q hq).1, h4 q hq⟩, h5⟩
theorem pair_nonempty (p : S31) (h : pairB p = true) : Op.bytesLess [] p.f0.toList = true := by
  unfold pairB smallB at h
  simp only [Bool.and_eq_true] at h
  obtain ⟨⟨⟨_, h⟩, _⟩, _⟩ := h
  cases hl : p.f0.toList with
  | nil => rw [hl] at h; simp at h
  | cons x l => rfl
theorem metaOk_iff (l : List S31) : metaOk l = true ↔ l.length ≤ 8 ∧ (∀ p ∈ l, pairB p = true) ∧ l.Pairwise (fun a b => Op.bytesLess a.f0.toList b.f0.toList = true) := by
  unfold metaOk
  rw [Bool.and_eq_true, decide_eq_true_eq, metaB_iff]
  constructor
  · rintro ⟨h1, h2, h3⟩; exact ⟨h1, fun p hp => (h2 p hp).1, h3⟩
  · rintro ⟨h1, h2, h3⟩; exact ⟨h1, fun p hp => ⟨h2 p hp, pair_nonempty p (h2 p hp)⟩, h3⟩
end Go.Proofs.Ytdhkcklgnnilfaa.Link
