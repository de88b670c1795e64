import Derived.Test.YtgdcklkdigdegaaX2
import Derived.Test.YtgdcklkdigdegaaX3
import Derived.Test.YtgdcklkdigdegaaX4
import Derived.Test.YtgdcklkdigdegaaCrcMath
/- What the printed functions of the sum come to, in words of bit vectors. -/
namespace Go.Proofs.Ytgdcklkdigdegaa.Link
set_option linter.unusedVariables false
set_option linter.unusedSimpArgs false
open Go.RowKit Go.Proofs.Ytgdcklkdigdegaa.X Go.Proofs.YtgdcklkdigdegaaW.PrintWords Go.Proofs.YtgdcklkdigdegaaW.PrintLast
open Go.Proofs.Ytgdcklkdigdegaa

def enc (x : BitVec 64) : Int := (x.toNat : Int)
theorem enc_lt (x : BitVec 64) : 0 ≤ enc x ∧ enc x < 18446744073709551616 := by
  have := x.isLt; unfold enc; omega
theorem enc_inj {x y : BitVec 64} : enc x = enc y ↔ x = y := by
  unfold enc
  constructor
  · intro h; exact BitVec.eq_of_toNat_eq (by omega)
  · rintro rfl; rfl
theorem wrap_enc (x : BitVec 64) : IntKind.u64.wrap (x.toNat : Int) = enc x := by
  have h := x.isLt
  show ((x.toNat : Int) % 2 ^ 64) = (x.toNat : Int)
  omega
theorem of_enc (x : BitVec 64) : BitVec.ofInt 64 (enc x) = x := by
  unfold enc; rw [BitVec.ofInt_natCast]; exact BitVec.eq_of_toNat_eq (by rw [BitVec.toNat_ofNat]; exact Nat.mod_eq_of_lt x.isLt)
theorem xor_enc (x y : BitVec 64) : Go.bits .xor .u64 (enc x) (enc y) = enc (x ^^^ y) := by
  show IntKind.u64.wrap ((BitVec.ofInt 64 (enc x) ^^^ BitVec.ofInt 64 (enc y)).toNat : Int) = _
  rw [of_enc, of_enc, wrap_enc]
theorem and_enc (x y : BitVec 64) : Go.bits .and .u64 (enc x) (enc y) = enc (x &&& y) := by
  show IntKind.u64.wrap ((BitVec.ofInt 64 (enc x) &&& BitVec.ofInt 64 (enc y)).toNat : Int) = _
  rw [of_enc, of_enc, wrap_enc]
theorem div2_enc (x : BitVec 64) : enc x / (2 : Int) = enc (x >>> 1) := by
  unfold enc; rw [BitVec.toNat_ushiftRight, Nat.shiftRight_eq_div_pow]; omega
theorem div16_enc (x : BitVec 64) : enc x / (16 : Int) = enc (x >>> 4) := by
  unfold enc; rw [BitVec.toNat_ushiftRight, Nat.shiftRight_eq_div_pow]; omega
theorem enc_of (n : Int) (h0 : 0 ≤ n) (h : n < 18446744073709551616) : ∃ x : BitVec 64, n = enc x :=
  ⟨BitVec.ofNat 64 n.toNat, by unfold enc; rw [BitVec.toNat_ofNat, Nat.mod_eq_of_lt (by omega)]; omega⟩
theorem not_enc (x : BitVec 64) : Go.bits .xor .u64 18446744073709551615 (enc x) = enc (~~~ x) := by
  have : (18446744073709551615 : Int) = enc (BitVec.allOnes 64) := by decide
  rw [this, xor_enc, BitVec.allOnes_xor]
theorem one_enc (x : BitVec 64) : Go.bits .and .u64 (enc x) 1 = 1 ↔ x.getLsbD 0 = true := by
  have : (1 : Int) = enc 1#64 := by decide
  rw [this, and_enc, enc_inj]
  constructor
  · intro h
    have := congrArg (fun z => z.getLsbD 0) h
    simpa using this
  · intro h
    apply BitVec.eq_of_getLsbD_eq; intro i hi
    rw [BitVec.getLsbD_and]
    rcases Nat.eq_zero_or_pos i with rfl | hp
    · rw [h]; rfl
    · have : (1#64).getLsbD i = false := by rw [BitVec.getLsbD_one]; simp; omega
      rw [this]; simp
theorem step_enc (x : BitVec 64) : hstep (enc x) = enc (Crc.step x) := by
  unfold hstep Crc.step
  by_cases h : x.getLsbD 0 = true
  · rw [if_pos ((one_enc x).2 h), if_pos h, div2_enc]
    have : (14514072000185962306 : Int) = enc Crc.poly := by decide
    rw [this, xor_enc]
  · rw [if_neg (fun z => h ((one_enc x).1 z)), if_neg h, div2_enc]
theorem steps_out (m : Nat) : ∀ x, Crc.steps (m + 1) x = Crc.step (Crc.steps m x) := by
  intro x; rw [Crc.steps_add m 1]; rfl
theorem steps_enc (m : Nat) (x : BitVec 64) : hsteps m (enc x) = enc (Crc.steps m x) := by
  induction m with
  | zero => rfl
  | succ m ih => rw [hsteps, ih, step_enc, steps_out]
theorem nib_enc (x : BitVec 64) : hnib (enc x) = enc (Crc.steps 4 x) := by
  unfold hnib hlow
  have : (15 : Int) = enc 15#64 := by decide
  rw [this, and_enc, steps_enc, div16_enc, xor_enc, ← Crc.nibble]
theorem byte_enc (x : BitVec 64) (c : UInt8) : hbyte (enc x) (IntKind.u64.wrap (c.toNat : Int)) = enc (Crc.byteStep x c) := by
  have hc := c.toNat_lt
  have : IntKind.u64.wrap (c.toNat : Int) = enc (BitVec.ofNat 64 c.toNat) := by
    rw [← wrap_enc, BitVec.toNat_ofNat, Nat.mod_eq_of_lt (by omega)]
  unfold hbyte Crc.byteStep
  rw [this, xor_enc, nib_enc, nib_enc, ← Crc.steps_add 4 4]
theorem fold_enc (s : ByteArray) (x : BitVec 64) (k : Nat) (hk : k ≤ s.size) : hfold s k (enc x) = enc (Crc.fold x (s.data.toList.take k)) := by
  induction k with
  | zero => rfl
  | succ k ih =>
    have hlt : k < s.size := hk
    rw [hfold, ih (by omega), ← bt_at s k (by simpa using hlt), byte_enc]
    rw [List.take_succ_eq_append_getElem (by simpa using hlt)]
    unfold Crc.fold
    rw [List.foldl_append]
    rfl
theorem on_enc (x : BitVec 64) (s : ByteArray) (h : s.size ≤ 9223372036854775807) : sum_On.f (enc x) s = some (enc (Crc.on x s.data.toList)) := by
  unfold sum_On.f Crc.on
  rw [if_pos (by omega), not_enc, fold_enc s _ s.size (Nat.le_refl _), not_enc, List.take_of_length_le (by simp)]
theorem of_enc' (s : ByteArray) (h : s.size ≤ 9223372036854775807) : sum_Of.f s = some (enc (Crc.on 0#64 s.data.toList)) := by
  unfold sum_Of.f
  have : (0 : Int) = enc 0#64 := by decide
  rw [this, on_enc _ _ h]; rfl
theorem first_true : cofferlaw01_first.f = some true := by
  decide +kernel
end Go.Proofs.Ytgdcklkdigdegaa.Link
