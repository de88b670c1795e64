import Derived.Test.YtgdcklkdigdegaaX2
import Derived.Test.YtgdcklkdigdegaaX5
import Derived.Test.YtgdcklkdigdegaaX6
import Derived.Test.YtgdcklkdigdegaaCrcLink
/- The reference's sum, bit by bit, is the same. -/
namespace Go.Proofs.Ytgdcklkdigdegaa.Link
set_option linter.unusedVariables false
set_option linter.unusedSimpArgs false
open Go.RowKit Go.Proofs.Ytgdcklkdigdegaa.X Go.Proofs.YtgdcklkdigdegaaW.PrintWords Go.Proofs.YtgdcklkdigdegaaW.PrintLast
open Go.Proofs.Ytgdcklkdigdegaa

theorem ref_l1 (s : ByteArray) (i : Int) (k d : Nat) (hd : d ≤ 8) : ∀ x : BitVec 64, cofferref01_On.l1 (k + d + 1) s (enc x) i ((8 - d : Nat) : Int) = cofferref01_On.l0 k s (enc (Crc.steps d x)) (wrap64 (i + 1)) := by
  induction d with
  | zero => intro x; simp only [cofferref01_On.l1]; rw [if_neg (by omega)]; rfl
  | succ d ih =>
    intro x
    have hw : wrap64 (((8 - (d + 1) : Nat) : Int) + 1) = ((8 - d : Nat) : Int) := by unfold wrap64; omega
    obtain ⟨m, hm⟩ : ∃ m, k + d + 1 = m := ⟨_, rfl⟩
    show cofferref01_On.l1 (k + d + 1 + 1) s (enc x) i _ = _
    rw [hm]
    simp only [cofferref01_On.l1]
    rw [if_pos (by omega), hw, ← hm]
    have hs := step_enc x
    unfold hstep at hs
    by_cases h : Go.bits .and .u64 (enc x) 1 = 1
    · rw [if_pos h] at hs ⊢
      rw [hs, ih (by omega)]; rfl
    · rw [if_neg h] at hs ⊢
      rw [hs, ih (by omega)]; rfl
theorem ref_l0 (s : ByteArray) (hs : s.size ≤ 140737488351232) (d : Nat) : ∀ (i : Nat) (x : BitVec 64), i + d = s.size → cofferref01_On.l0 (10 * d + 1) s (enc x) (i : Int) = some (enc (~~~ (Crc.fold x (s.data.toList.drop i)))) := by
  induction d with
  | zero =>
    intro i x h
    simp only [Nat.mul_zero, Nat.zero_add, cofferref01_On.l0]
    rw [if_neg (by omega), not_enc, List.drop_of_length_le (by simp; omega)]
    rfl
  | succ d ih =>
    intro i x h
    have hlt : i < s.size := by omega
    show cofferref01_On.l0 (10 * d + 10 + 1) s (enc x) (i : Int) = _
    simp only [cofferref01_On.l0]
    rw [if_pos (by omega), if_pos (by omega), ← bt_at s i (by simpa using hlt)]
    have hc := (s[i]).toNat_lt
    have hw : IntKind.u64.wrap (((s[i]'hlt).toNat : Int)) = enc (BitVec.ofNat 64 (s[i]'hlt).toNat) := by
      rw [← wrap_enc, BitVec.toNat_ofNat, Nat.mod_eq_of_lt (by omega)]
    show cofferref01_On.l1 (10 * d + 1 + 8 + 1) s (Go.bits .xor .u64 (enc x) (IntKind.u64.wrap (((s[i]'hlt).toNat : Int)))) (i : Int) 0 = _
    rw [hw, xor_enc]
    have := ref_l1 s i (10 * d + 1) 8 (Nat.le_refl _) (x ^^^ BitVec.ofNat 64 (s[i]'hlt).toNat)
    rw [show ((8 - 8 : Nat) : Int) = 0 from rfl] at this
    rw [this, show wrap64 ((i : Int) + 1) = ((i + 1 : Nat) : Int) by unfold wrap64; omega, ih (i + 1) _ (by omega)]
    congr 3
    rw [List.drop_eq_getElem_cons (i := i) (by simpa using hlt)]
    unfold Crc.fold
    rw [List.foldl_cons]
    rfl
theorem ref_on (x : BitVec 64) (s : ByteArray) (hs : s.size ≤ 140737488351232) : cofferref01_On.f (10 * s.size + 1) (enc x) s = some (enc (Crc.on x s.data.toList)) := by
  unfold cofferref01_On.f
  rw [not_enc]
  exact ref_l0 s hs s.size 0 _ (by omega)
theorem ref_of (s : ByteArray) (hs : s.size ≤ 140737488351232) : cofferref01_Of.f (10 * s.size + 1) s = some (enc (Crc.on 0#64 s.data.toList)) := by
  unfold cofferref01_Of.f
  have : (0 : Int) = enc 0#64 := by decide
  rw [this, ref_on _ _ hs]; rfl
theorem wf_enc {a : Int} (h : (Lit.int .u64 a).wf = true) : ∃ x : BitVec 64, a = enc x := by
  have hb : IntKind.u64.min ≤ a ∧ a ≤ IntKind.u64.max := by simpa [Lit.wf] using h
  have h1 : IntKind.u64.min = 0 := rfl
  have h2 : IntKind.u64.max = 18446744073709551615 := rfl
  exact enc_of a (by omega) (by omega)
end Go.Proofs.Ytgdcklkdigdegaa.Link
