/- The two readers of chapter 13 tell alike. -/
import Derived.Test.YtdhkcklgnnilfaaX20
import Derived.Test.YtdhkcklgnnilfaaX26
namespace Go.Proofs.Ytdhkcklgnnilfaa.Link
set_option linter.unusedVariables false
set_option linter.unusedSimpArgs false
open Go.RowKit Go.Proofs.Ytdhkcklgnnilfaa.X Go.Proofs.YtdhkcklgnnilfaaW.PrintWords Go.Proofs.YtdhkcklgnnilfaaW.PrintLast

theorem take_eq (s : ByteArray) (b : Bool) (n : Int) : cofferref13_reader_take.f s b n = version_reader_text.f s b n := rfl
/-- What a reader hands over of at most 8 bytes. -/
theorem text_some (s : ByteArray) (b : Bool) (n : Int) (h : 0 ≤ n) : ∃ t r c, version_reader_text.f s b n = some (t, r, c) ∧ (c = true ∧ t = (⟨#[]⟩ : ByteArray) ∧ r = s ∨ c = false ∧ b = false ∧ n ≤ s.size ∧ t = s.extract 0 n.toNat ∧ r = s.extract n.toNat s.size) := by
  unfold version_reader_text.f
  cases b
  · rw [if_neg (by decide)]
    by_cases h1 : n > (s.size : Int)
    · rw [if_pos h1]; exact ⟨_, _, _, rfl, .inl ⟨rfl, rfl, rfl⟩⟩
    · rw [if_neg h1, if_pos h, if_pos (by omega)]
      exact ⟨_, _, _, rfl, .inr ⟨rfl, rfl, by omega, rfl, rfl⟩⟩
  · rw [if_pos rfl]; exact ⟨_, _, _, rfl, .inl ⟨rfl, rfl, rfl⟩⟩
theorem ofInt_congr (a b : Int) (h : a % 18446744073709551616 = b % 18446744073709551616) : BitVec.ofInt 64 a = BitVec.ofInt 64 b := by
  apply BitVec.eq_of_toNat_eq
  rw [BitVec.toNat_ofInt, BitVec.toNat_ofInt]
  show (a % 18446744073709551616).toNat = (b % 18446744073709551616).toNat
  rw [h]
/-- One step of either number: the same, as an int64 sees it. -/
theorem step_eq (u c : Int) : Go.bits .or .i64 (wrap64 (wrap64 u * 256)) c = wrap64 (Go.bits .or .u64 (IntKind.u64.wrap (u * 256)) (IntKind.u64.wrap c)) := by
  have e1 : BitVec.ofInt 64 (wrap64 (wrap64 u * 256)) = BitVec.ofInt 64 (IntKind.u64.wrap (u * 256)) := ofInt_congr _ _ (by
    show _ = ((u * 256) % 18446744073709551616) % 18446744073709551616
    unfold wrap64; omega)
  have e2 : BitVec.ofInt 64 c = BitVec.ofInt 64 (IntKind.u64.wrap c) := ofInt_congr _ _ (by
    show _ = (c % 18446744073709551616) % 18446744073709551616
    omega)
  have l : Go.bits .or .i64 (wrap64 (wrap64 u * 256)) c = IntKind.i64.wrap ((BitVec.ofInt 64 (wrap64 (wrap64 u * 256)) ||| BitVec.ofInt 64 c).toNat : Int) := rfl
  have r : Go.bits .or .u64 (IntKind.u64.wrap (u * 256)) (IntKind.u64.wrap c) = IntKind.u64.wrap ((BitVec.ofInt 64 (IntKind.u64.wrap (u * 256)) ||| BitVec.ofInt 64 (IntKind.u64.wrap c)).toNat : Int) := rfl
  rw [l, r, e1, e2, i64_w]
  generalize BitVec.ofInt 64 (IntKind.u64.wrap (u * 256)) ||| BitVec.ofInt 64 (IntKind.u64.wrap c) = z
  have hz := z.isLt
  show wrap64 (z.toNat : Int) = wrap64 ((z.toNat : Int) % 18446744073709551616)
  unfold wrap64; omega
theorem number_l0 (t : ByteArray) (ht : t.size ≤ 8) (r : ByteArray) (c : Bool) (d : Nat) : ∀ (k i : Nat) (u : Int), i + d = t.size → d < k → wrap64 u = vfold t i → cofferref13_reader_number.l0 k t u (i : Int) r c = some (vfold t t.size, r, c) := by
  induction d with
  | zero =>
    intro k i u h hk hu
    obtain ⟨k, rfl⟩ : ∃ q, k = q + 1 := ⟨k - 1, by omega⟩
    simp only [cofferref13_reader_number.l0]
    rw [if_neg (by omega), hu, show i = t.size by omega]
  | succ d ih =>
    intro k i u h hk hu
    obtain ⟨k, rfl⟩ : ∃ q, k = q + 1 := ⟨k - 1, by omega⟩
    have hw : wrap64 ((i : Int) + 1) = ((i + 1 : Nat) : Int) := by unfold wrap64; omega
    simp only [cofferref13_reader_number.l0]
    rw [if_pos (by omega), if_pos (by omega), hw]
    refine ih k (i + 1) _ (by omega) (by omega) ?_
    rw [← step_eq, hu]; rfl
theorem number_eq (k : Nat) (hk : 10 ≤ k) (s : ByteArray) (b : Bool) (n : Int) (h0 : 0 ≤ n) (h8 : n ≤ 8) : cofferref13_reader_number.f k s b n = version_reader_number.f s b n := by
  obtain ⟨t, r, c, ht, hc⟩ := text_some s b n h0
  have hs := version_reader_text_size ht
  simp only at hs
  unfold cofferref13_reader_number.f version_reader_number.f
  rw [if_pos h8, take_eq, ht]
  simp only [Option.bind_some]
  exact number_l0 t (by omega) r c t.size k 0 0 (by omega) (by omega) (by simp [wrap64, vfold])
end Go.Proofs.Ytdhkcklgnnilfaa.Link
