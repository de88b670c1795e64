/- NamesBytes: of a text of 1 to 32 bytes Bucket is OK just if it is of each of its bytes alone; of others it never is; a metadata's name of 1 to 16 bytes is right just if it is a bucket's. No condition beside the row's own. -/
import Derived.Test.YtgijgemgghphbaaX22
import Derived.Test.YtgijgemgghphbaaNamesLink
namespace Go.Proofs.Ytgijgemgghphbaa.Pure
set_option linter.unusedVariables false
set_option linter.unusedSimpArgs false
open Go.RowKit Go.Proofs.Ytgijgemgghphbaa.X Go.Proofs.YtgijgemgghphbaaW.PrintWords Go.Proofs.YtgijgemgghphbaaW.PrintLast
open Go.Proofs.Ytgijgemgghphbaa Go.Proofs.Ytgijgemgghphbaa.Link

theorem one_byte (s : ByteArray) (i : Nat) (h : i < s.size) : smallB (s.extract i (i + 1)) 32 = nbyte (bt s i) := by
  have hsz : (s.extract i (i + 1)).size = 1 := by simp; omega
  have hb : bt (s.extract i (i + 1)) 0 = bt s i := by
    have h1 := bt_at (s.extract i (i + 1)) 0 (by rw [hsz]; decide)
    have h2 := bt_at s i (by simpa using h)
    rw [← h1, ← h2]
    show (((s.extract i (i + 1)).data[0]'(by rw [ByteArray.size_data, hsz]; decide)).toNat : Int) = (s.data[i].toNat : Int)
    simp [ByteArray.data_extract]
  have he : (s.extract i (i + 1)).toList.isEmpty = false := by rw [Bool.eq_false_iff, Ne, empty_iff]; omega
  unfold smallB
  rw [hsz, he]
  simp only [nfrom]
  show (nbyte (bt (s.extract i (i + 1)) 0) && true && !false && decide (((1 : Nat) : Int) ≤ 32)) = _
  rw [hb]; simp
/-- What stands behind the loop. -/
def tail (k : Nat) (s : ByteArray) (b : Bool) : Option Bool :=
  ((names_Bucket.f s).bind fun t212 => (if t212 = 0 then (if b = true then ((names_Meta.f k (([(⟨s, (⟨#[]⟩ : ByteArray)⟩ : S31)] : List (S31)))).bind fun t216 => (if t216 = 0 then (if (s.size : Int) ≤ 16 then (some true) else (some false)) else (if ((s.size : Int) ≤ 16) then (some false) else (some (t216 == 62))))) else (some false)) else (if b = true then (some false) else (if t212 = 60 then ((names_Meta.f k (([(⟨s, (⟨#[]⟩ : ByteArray)⟩ : S31)] : List (S31)))).bind fun t220 => (if t220 = 0 then (some false) else (some (t220 == 62)))) else (some false)))))
theorem meta_one (s : ByteArray) : metaOk [(⟨s, (⟨#[]⟩ : ByteArray)⟩ : S31)] = smallB s 16 := by
  rw [Bool.eq_iff_iff, metaOk_iff]
  constructor
  · rintro ⟨_, h, _⟩
    have h1 := h _ (List.mem_singleton.2 rfl)
    unfold pairB at h1
    rw [Bool.and_eq_true] at h1
    exact h1.1
  · intro h
    refine ⟨by simp, fun p hp => ?_, by simp⟩
    obtain rfl := List.mem_singleton.1 hp
    unfold pairB
    rw [Bool.and_eq_true]
    exact ⟨h, show decide (((0 : Nat) : Int) ≤ 64) = true by decide⟩
theorem small_16 (s : ByteArray) : smallB s 16 = (smallB s 32 && decide ((s.size : Int) ≤ 16)) := by
  unfold smallB
  by_cases h : (s.size : Int) ≤ 16
  · have h2 : decide ((s.size : Int) ≤ 32) = true := by simp; omega
    have h1 : decide ((s.size : Int) ≤ 16) = true := by simpa using h
    rw [h1, h2]; simp
  · have h1 : decide ((s.size : Int) ≤ 16) = false := by simpa using h
    rw [h1]; simp
theorem tail_true (k : Nat) (hk : 2 ≤ k) (s : ByteArray) : tail k s (smallB s 32) = some true := by
  have hm := meta_eq [(⟨s, (⟨#[]⟩ : ByteArray)⟩ : S31)] (by simp) k (by simp; omega)
  rw [meta_one, small_16] at hm
  unfold tail
  rw [bucket_eq, hm]
  simp only [Option.bind_some]
  by_cases h : smallB s 32 = true
  · by_cases h16 : (s.size : Int) ≤ 16
    · simp [h, h16]
    · simp [h, h16]
  · have h' : smallB s 32 = false := by simpa using h
    simp [h']
theorem loop (s : ByteArray) (hs : s.size ≤ 140737488351232) (d : Nat) : ∀ (k i : Nat) (b : Bool), i + d = min s.size 32 → 2 * d + 6 ≤ k → (b && nfrom s d i) = smallB s 32 → cofferlaw12_NamesBytes.l0 k s b (i : Int) = some true := by
  induction d with
  | zero =>
    intro k i b h hk hb
    obtain ⟨k, rfl⟩ : ∃ q, k = q + 1 + 1 := ⟨k - 2, by omega⟩
    have hb' : b = smallB s 32 := by rw [← hb]; simp [nfrom]
    have ht : cofferlaw12_NamesBytes.j2 (k + 1) s b (i : Int) false = some true := by
      rw [hb']
      simp only [cofferlaw12_NamesBytes.j2]
      rw [if_neg (by decide)]
      exact tail_true k (by omega) s
    obtain ⟨m, hm⟩ : ∃ m, k + 1 = m := ⟨_, rfl⟩
    rw [hm] at ht ⊢
    simp only [cofferlaw12_NamesBytes.l0]
    by_cases hl : (i : Int) < (s.size : Int)
    · rw [if_pos hl]
      have : decide ((i : Int) < 32) = false := by simp; omega
      rw [this]; exact ht
    · rw [if_neg hl]; exact ht
  | succ d ih =>
    intro k i b h hk hb
    obtain ⟨k, rfl⟩ : ∃ q, k = q + 1 + 1 := ⟨k - 2, by omega⟩
    have hlt : i < s.size := by omega
    have hw : wrap64 ((i : Int) + 1) = ((i + 1 : Nat) : Int) := by unfold wrap64; omega
    have hj : cofferlaw12_NamesBytes.j2 (k + 1) s b (i : Int) true = some true := by
      simp only [cofferlaw12_NamesBytes.j2]
      rw [if_pos trivial, if_pos (by omega), hw, if_pos (by omega), if_pos (by omega), bucket_eq, Int.toNat_natCast, Int.toNat_natCast, one_byte s i hlt]
      simp only [Option.bind_some]
      have hn : nfrom s (d + 1) i = (nbyte (bt s i) && nfrom s d (i + 1)) := rfl
      rw [hn] at hb
      by_cases h1 : nbyte (bt s i) = true
      · rw [h1, Bool.true_and] at hb
        rw [if_pos h1, if_pos rfl]
        exact ih k (i + 1) b (by omega) (by omega) hb
      · have h1' : nbyte (bt s i) = false := by simpa using h1
        rw [h1', Bool.false_and, Bool.and_false] at hb
        rw [if_neg h1, if_neg (by decide)]
        exact ih k (i + 1) false (by omega) (by omega) (by rw [Bool.false_and]; exact hb)
    obtain ⟨m, hm⟩ : ∃ m, k + 1 = m := ⟨_, rfl⟩
    rw [hm] at hj ⊢
    simp only [cofferlaw12_NamesBytes.l0]
    rw [if_pos (by omega)]
    have : decide ((i : Int) < 32) = true := by simp; omega
    rw [this]; exact hj
theorem NamesBytes : cofferlaw12_NamesBytes.Pure := by
  intro s hs
  refine ⟨100, ?_⟩
  unfold cofferlaw12_NamesBytes.f
  rw [first_more _ (by omega)]
  simp only [Option.bind_some, if_true]
  have key : ∀ b : Bool, (b && nfrom s (min s.size 32) 0) = smallB s 32 → cofferlaw12_NamesBytes.j0 100 s b = some true := by
    intro b hb
    show cofferlaw12_NamesBytes.l0 99 s b 0 = some true
    exact loop s hs (min s.size 32) 99 0 b (by omega) (by omega) hb
  by_cases h : (s.size : Int) ≥ 1
  · rw [if_pos h]
    refine key _ ?_
    have he : s.toList.isEmpty = false := by rw [Bool.eq_false_iff, Ne, empty_iff]; omega
    unfold smallB
    rw [he]
    by_cases h2 : (s.size : Int) ≤ 32
    · have : min s.size 32 = s.size := by omega
      rw [this]
      have : decide ((s.size : Int) ≤ 32) = true := by simpa using h2
      rw [this]; simp
    · have : decide ((s.size : Int) ≤ 32) = false := by simpa using h2
      rw [this]; simp
  · rw [if_neg h]
    refine key _ ?_
    have he : s.toList.isEmpty = true := by rw [empty_iff]; omega
    unfold smallB
    rw [he]; simp
end Go.Proofs.Ytgijgemgghphbaa.Pure
