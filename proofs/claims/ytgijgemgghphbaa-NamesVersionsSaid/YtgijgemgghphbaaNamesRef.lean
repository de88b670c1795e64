/- The document's Meta, Version and Size of the names tell what the program's tell. -/
import Derived.Test.YtgijgemgghphbaaNamesLink
import Derived.Test.YtgijgemgghphbaaX7
import Derived.Test.YtgijgemgghphbaaX8
import Derived.Test.YtgijgemgghphbaaX16
import Derived.Test.YtgijgemgghphbaaX19
import Derived.Test.YtgijgemgghphbaaX20
import Derived.Test.YtgijgemgghphbaaX5
import Derived.Test.YtgijgemgghphbaaX13
namespace Go.Proofs.Ytgijgemgghphbaa.Link
set_option linter.unusedVariables false
set_option linter.unusedSimpArgs false
open Go.RowKit Go.Proofs.Ytgijgemgghphbaa.X Go.Proofs.YtgijgemgghphbaaW.PrintWords Go.Proofs.YtgijgemgghphbaaW.PrintLast
open Go.Proofs.Ytgijgemgghphbaa

theorem ref_meta_l0 (xs : List S31) (hx : xs.length ≤ 8) (M : Nat) (hM : ∀ p ∈ xs, p.f0.size ≤ M) (hM2 : M ≤ 140737488355328) (d : Nat) : ∀ (k i : Nat) (last : List UInt8), i + d = xs.length → M + d + 1 < k → (i = 0 → last = []) → (∀ h : 0 < i, ∀ h2 : i - 1 < xs.length, last = xs[i - 1].f0.toList) →
    cofferref12_Meta.l0 k xs (i : Int) = some (if metaB last (xs.drop i) = true then 0 else 62) := by
  induction d with
  | zero =>
    intro k i last h hk _ _
    obtain ⟨k, rfl⟩ : ∃ q, k = q + 1 := ⟨k - 1, by omega⟩
    simp only [cofferref12_Meta.l0]
    rw [if_neg (by omega), List.drop_of_length_le (by omega)]; rfl
  | succ d ih =>
    intro k i last h hk hl0 hl1
    obtain ⟨k, rfl⟩ : ∃ q, k = q + 1 := ⟨k - 1, by omega⟩
    have hlt : i < xs.length := by omega
    have hw : wrap64 ((i : Int) + 1) = ((i + 1 : Nat) : Int) := by unfold wrap64; omega
    have hs := hM xs[i] (List.getElem_mem hlt)
    have ih' := ih k (i + 1) xs[i].f0.toList (by omega) (by omega) (by omega) (by intro _ _; rfl)
    simp only [cofferref12_Meta.l0]
    rw [if_pos (by omega), if_pos (by omega), rd_at xs i hlt, ref_small _ _ (by omega) k (by omega), hw, ih', List.drop_eq_getElem_cons hlt]
    simp only [Option.bind_some]
    have hm : metaB last (xs[i] :: xs.drop (i + 1)) = ((smallB xs[i].f0 16 && decide ((xs[i].f1.size : Int) ≤ 64)) && Op.bytesLess last xs[i].f0.toList && metaB xs[i].f0.toList (xs.drop (i + 1))) := rfl
    by_cases h1 : smallB xs[i].f0 16 = true
    · rw [if_pos h1]
      by_cases h2 : (xs[i].f1.size : Int) > 64
      · have hz : decide ((xs[i].f1.size : Int) ≤ 64) = false := by simp; omega
        rw [hz, Bool.and_false, Bool.false_and, Bool.false_and] at hm
        rw [if_pos h2, hm]; rfl
      · have hz : decide ((xs[i].f1.size : Int) ≤ 64) = true := by simp; omega
        rw [h1, hz, Bool.true_and, Bool.true_and] at hm
        rw [if_neg h2]
        by_cases h0 : i = 0
        · have hl : Op.bytesLess last xs[i].f0.toList = true := by
            rw [hl0 h0]
            exact pair_nonempty xs[i] (by unfold pairB; rw [h1, hz]; rfl)
          rw [hl, Bool.true_and] at hm
          rw [if_neg (by omega), hm]
        · have hw3 : wrap64 ((i : Int) - 1) = ((i - 1 : Nat) : Int) := by unfold wrap64; omega
          rw [if_pos (by omega), hw3, if_pos (by omega), if_pos (by omega), rd_at xs (i - 1) (by omega), ← hl1 (by omega) (by omega)]
          by_cases h3 : Op.bytesLess last xs[i].f0.toList = true
          · rw [h3, Bool.true_and] at hm
            rw [if_pos h3, hm]
          · have h3' : Op.bytesLess last xs[i].f0.toList = false := by simpa using h3
            rw [h3', Bool.false_and] at hm
            rw [if_neg h3, hm]; rfl
    · have h1' : smallB xs[i].f0 16 = false := by simpa using h1
      rw [h1', Bool.false_and, Bool.false_and, Bool.false_and] at hm
      rw [if_neg h1, hm]; rfl
/-- The document's Meta tells the same. -/
theorem ref_meta (l : List S31) (M : Nat) (hM : ∀ p ∈ l, p.f0.size ≤ M) (hM2 : M ≤ 140737488355328) (k : Nat) (hk : M + 20 < k) : cofferref12_Meta.f k l = some (if metaOk l = true then 0 else 62) := by
  unfold cofferref12_Meta.f metaOk
  by_cases h : (l.length : Int) > 8
  · have : decide (l.length ≤ 8) = false := by simp; omega
    rw [if_pos h, this]; simp
  · have : decide (l.length ≤ 8) = true := by simp; omega
    rw [if_neg h, this]
    have := ref_meta_l0 l (by omega) M hM hM2 l.length k 0 [] (by omega) (by omega) (fun _ => rfl) (fun h => absurd h (by omega))
    rw [List.drop_zero] at this
    simp only [Bool.true_and]
    exact this
theorem version_alike (k : Nat) (a : ByteArray) (q : Int) (m : Bool) (d : ByteArray) (l : List S31) (hl : l.length ≤ 140737488351232) (M : Nat) (hM : ∀ p ∈ l, p.f0.size ≤ M) (hM2 : M ≤ 140737488355328) (hk : l.length + M + 25 < k) : ∃ t, names_Version.f k a q m d l = some t ∧ cofferref12_Version.f k a q m d l = some t := by
  obtain ⟨k, rfl⟩ : ∃ q, k = q + 1 := ⟨k - 1, by omega⟩
  have hm := meta_eq l hl k (by omega)
  have hr := ref_meta l M hM hM2 k (by omega)
  generalize (if metaOk l = true then (0 : Int) else 62) = u at hm hr
  obtain ⟨x, hx⟩ : ∃ x, cofferref12_Key.f a = some x := by
    unfold cofferref12_Key.f; split
    · exact ⟨_, rfl⟩
    · split <;> exact ⟨_, rfl⟩
  obtain ⟨y, hy⟩ : ∃ y, cofferref12_Data.f d = some y := by
    unfold cofferref12_Data.f; split <;> exact ⟨_, rfl⟩
  have hd : names_Data.f d = some y := hy
  have hkey : names_Key.f a = some x := (key_eq a).trans hx
  unfold names_Version.f cofferref12_Version.f
  rw [hkey, hx, hd, hy]
  simp only [Option.bind_some, names_Version.j0, cofferref12_Version.j0, hm, hr]
  by_cases h1 : x = 0
  · simp only [if_pos h1]
    by_cases h2 : y = 0
    · simp only [if_pos h2]
      cases m
      · simp only [Bool.false_eq_true, if_false]
        by_cases h3 : u = 0
        · simp [h3]
        · simp [h3]
      · simp only [if_true]
        by_cases h4 : (d.toList != ([] : List UInt8)) = true
        · simp [h4]
        · simp only [if_neg h4]
          by_cases h3 : u = 0
          · simp only [if_pos h3]
            by_cases h5 : (l.length : Int) > 0
            · exact ⟨62, by rw [if_pos h5], by rw [if_pos h5]⟩
            · exact ⟨0, by rw [if_neg h5], by rw [if_neg h5]⟩
          · simp [h3]
    · simp only [if_neg h2, if_true]; exact ⟨_, rfl, rfl⟩
  · simp only [if_neg h1]; exact ⟨_, rfl, rfl⟩
theorem size_l0 (a : ByteArray) (q : Int) (m : Bool) (d : ByteArray) (xs : List S31) (hx : xs.length ≤ 140737488351232) (j : Nat) : ∀ (k i : Nat) (x : Int), i + j = xs.length → j < k →
    ∃ t, names_Size.l0 k x xs (xs.length : Int) (i : Int) = some t ∧ cofferref12_Size.l0 k x (i : Int) a q m d xs = some t := by
  induction j with
  | zero =>
    intro k i x h hk
    obtain ⟨k, rfl⟩ : ∃ q, k = q + 1 := ⟨k - 1, by omega⟩
    simp only [names_Size.l0, cofferref12_Size.l0]
    rw [if_neg (by omega), if_neg (by omega)]
    exact ⟨_, rfl, rfl⟩
  | succ j ih =>
    intro k i x h hk
    obtain ⟨k, rfl⟩ : ∃ q, k = q + 1 := ⟨k - 1, by omega⟩
    have hw : wrap64 ((i : Int) + 1) = ((i + 1 : Nat) : Int) := by unfold wrap64; omega
    have e : ∀ u v : Int, wrap64 (x + wrap64 (u + v)) = wrap64 (wrap64 (x + u) + v) := by intro u v; unfold wrap64; omega
    simp only [names_Size.l0, cofferref12_Size.l0]
    rw [if_pos (by omega), if_pos (by omega), if_pos (by omega), if_pos (by omega), if_pos (by omega), hw, e]
    exact ih k (i + 1) _ (by omega) (by omega)
theorem size_alike (k : Nat) (a : ByteArray) (q : Int) (m : Bool) (d : ByteArray) (l : List S31) (hl : l.length ≤ 140737488351232) (hk : l.length < k) : ∃ t, names_Size.f k a q m d l = some t ∧ cofferref12_Size.f k a q m d l = some t := by
  unfold names_Size.f cofferref12_Size.f
  exact size_l0 a q m d l hl l.length k 0 _ (by omega) hk
end Go.Proofs.Ytgijgemgghphbaa.Link
