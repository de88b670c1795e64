/- Chapter 5: numbers of eight bytes, there and back. -/
import Derived.Test.YtbohpjbcjnapfaaTupR
import Derived.Test.YtbohpjbcjnapfaaX0
namespace Go.Proofs.Ytbohpjbcjnapfaa.TupM
open Go.RowKit Go.Proofs.Ytbohpjbcjnapfaa.X Go.Proofs.YtbohpjbcjnapfaaW.PrintWords Go.Proofs.YtbohpjbcjnapfaaW.PrintLast
set_option linter.unusedVariables false
set_option linter.unusedSimpArgs false

def enc (x : BitVec 64) : Int := (x.toNat : Int)
theorem enc_lt (x : BitVec 64) : 0 ≤ enc x ∧ enc x < 18446744073709551616 := by
  have := x.isLt; unfold enc; omega
theorem wrap_enc (x : BitVec 64) : IntKind.u64.wrap (x.toNat : Int) = enc x := by
  have h := x.isLt
  show ((x.toNat : Int) % 2 ^ 64) = (x.toNat : Int)
  omega
theorem of_enc (x : BitVec 64) : BitVec.ofInt 64 (enc x) = x := by
  unfold enc; rw [BitVec.ofInt_natCast]; exact BitVec.eq_of_toNat_eq (by rw [BitVec.toNat_ofNat]; exact Nat.mod_eq_of_lt x.isLt)
theorem xor_enc (x y : BitVec 64) : Go.bits .xor .u64 (enc x) (enc y) = enc (x ^^^ y) := by
  show IntKind.u64.wrap ((BitVec.ofInt 64 (enc x) ^^^ BitVec.ofInt 64 (enc y)).toNat : Int) = _
  rw [of_enc, of_enc, wrap_enc]
theorem not_enc (x : BitVec 64) : Go.bits .xor .u64 18446744073709551615 (enc x) = enc (~~~ x) := by
  have : (18446744073709551615 : Int) = enc (BitVec.allOnes 64) := by decide
  rw [this, xor_enc, BitVec.allOnes_xor]
theorem enc_of (n : Int) (h0 : 0 ≤ n) (h : n < 18446744073709551616) : n = enc (BitVec.ofInt 64 n) := by
  unfold enc; rw [BitVec.toNat_ofInt]; omega
theorem wrap_u64 (n : Int) : IntKind.u64.wrap n = enc (BitVec.ofInt 64 n) := by
  show n % 2 ^ 64 = _
  unfold enc; rw [BitVec.toNat_ofInt]; omega
theorem wrap64_enc (x : BitVec 64) : wrap64 (enc x) = x.toInt := by
  have h := x.isLt
  rw [BitVec.toInt_eq_toNat_bmod, Int.bmod_def]; unfold enc wrap64; omega
def T : BitVec 64 := 9223372036854775808#64
theorem T_enc : (9223372036854775808 : Int) = enc T := by decide
/-- What a number's eight bytes stand for. -/
def ofR (v : Int) : Int := wrap64 (Go.bits .xor .u64 v 9223372036854775808)
def ofF (v : Int) : Int := wrap64 (Go.bits .xor .u64 (Go.bits .xor .u64 18446744073709551615 v) 9223372036854775808)
def i64 (n : Int) : Prop := -9223372036854775808 ≤ n ∧ n < 9223372036854775808
theorem toInt_ofInt (n : Int) (h : i64 n) : (BitVec.ofInt 64 n).toInt = n := by
  obtain ⟨h0, h1⟩ := h
  rw [BitVec.toInt_ofInt, Int.bmod_def]; omega
theorem ofR_numR (n : Int) (h : i64 n) : ofR (numR n) = n := by
  unfold ofR numR
  rw [wrap_u64, T_enc, xor_enc, xor_enc, BitVec.xor_assoc, BitVec.xor_self, BitVec.xor_zero, wrap64_enc, toInt_ofInt n h]
theorem ofF_numF (n : Int) (h : i64 n) : ofF (numF n) = n := by
  unfold ofF numF numR
  rw [wrap_u64, T_enc, xor_enc, not_enc, not_enc, BitVec.not_not, xor_enc, BitVec.xor_assoc, BitVec.xor_self, BitVec.xor_zero, wrap64_enc, toInt_ofInt n h]
theorem numR_ofR (v : Int) (h0 : 0 ≤ v) (h : v < 18446744073709551616) : numR (ofR v) = v := by
  unfold ofR numR
  rw [enc_of v h0 h, T_enc, xor_enc, wrap64_enc, wrap_u64, BitVec.ofInt_toInt, xor_enc, BitVec.xor_assoc, BitVec.xor_self, BitVec.xor_zero]
theorem numF_ofF (v : Int) (h0 : 0 ≤ v) (h : v < 18446744073709551616) : numF (ofF v) = v := by
  unfold ofF numF numR
  rw [enc_of v h0 h, T_enc, not_enc, xor_enc, wrap64_enc, wrap_u64, BitVec.ofInt_toInt, xor_enc, BitVec.xor_assoc, BitVec.xor_self, BitVec.xor_zero, not_enc, BitVec.not_not]
theorem i64_ofR (v : Int) : i64 (ofR v) := by unfold ofR i64 wrap64; omega
theorem i64_ofF (v : Int) : i64 (ofF v) := by unfold ofF i64 wrap64; omega
/-- The number of bytes, the highest first. -/
def valF (l : List UInt8) : Int := l.foldl (fun v c => v * 256 + (c.toNat : Int)) 0
theorem valF_snoc (l : List UInt8) (c : UInt8) : valF (l ++ [c]) = valF l * 256 + (c.toNat : Int) := by
  unfold valF; rw [List.foldl_append]; rfl
theorem valF_range (l : List UInt8) : 0 ≤ valF l ∧ valF l < 256 ^ l.length := by
  induction hn : l.length generalizing l with
  | zero => rw [List.length_eq_zero_iff] at hn; subst hn; simp [valF]
  | succ n ih =>
    obtain ⟨l', c, rfl⟩ : ∃ l' c, l = l' ++ [c] := ⟨l.dropLast, l.getLast (by intro e; subst e; simp at hn), (List.dropLast_concat_getLast _).symm⟩
    have := ih l' (by simpa using hn)
    have hc := c.toNat_lt
    rw [valF_snoc, Int.pow_succ]
    omega
theorem byte_eq (n : Int) (c : UInt8) (h : n = (c.toNat : Int)) : UInt8.ofNat n.toNat = c := by
  subst h; simp
theorem be_valF (a b c d e f g h : UInt8) : be (valF [a, b, c, d, e, f, g, h]) 8 = [a, b, c, d, e, f, g, h] := by
  have h1 := a.toNat_lt; have h2 := b.toNat_lt; have h3 := c.toNat_lt; have h4 := d.toNat_lt
  have h5 := e.toNat_lt; have h6 := f.toNat_lt; have h7 := g.toNat_lt; have h8 := h.toNat_lt
  show [_, _, _, _, _, _, _, _] = _
  simp only [valF, List.foldl_cons, List.foldl_nil]
  simp only [List.cons.injEq, and_true]
  refine ⟨?_, ?_, ?_, ?_, ?_, ?_, ?_, ?_⟩ <;> refine byte_eq _ _ ?_ <;> simp only [Nat.reduceSub, Nat.reduceMul, Int.reducePow] <;> omega
theorem be8_valF (l : List UInt8) (hl : l.length = 8) : be (valF l) 8 = l := by
  match l, hl with
  | [a, b, c, d, e, f, g, h], _ => exact be_valF a b c d e f g h
theorem valF_be (v : Int) (h0 : 0 ≤ v) (h : v < 18446744073709551616) : valF (be v 8) = v := by
  have e2 : v / 65536 = v / 256 / 256 := by omega
  have e3 : v / 16777216 = v / 65536 / 256 := by omega
  have e4 : v / 4294967296 = v / 16777216 / 256 := by omega
  have e5 : v / 1099511627776 = v / 4294967296 / 256 := by omega
  have e6 : v / 281474976710656 = v / 1099511627776 / 256 := by omega
  have e7 : v / 72057594037927936 = v / 281474976710656 / 256 := by omega
  have e8 : v / 72057594037927936 < 256 := by omega
  have hb : ∀ n : Int, ((UInt8.ofNat (n % 256).toNat).toNat : Int) = n % 256 := by intro n; simp; omega
  show valF [_, _, _, _, _, _, _, _] = v
  simp only [valF, List.foldl_cons, List.foldl_nil, hb, Nat.reduceSub, Nat.reduceMul, Int.reducePow, Nat.sub_zero, Nat.sub_self, Nat.mul_zero, Int.ediv_one]
  generalize v / 72057594037927936 = q7 at *
  generalize v / 281474976710656 = q6 at *
  generalize v / 1099511627776 = q5 at *
  generalize v / 4294967296 = q4 at *
  generalize v / 16777216 = q3 at *
  generalize v / 65536 = q2 at *
  generalize hq1 : v / 256 = q1 at *
  omega
end Go.Proofs.Ytbohpjbcjnapfaa.TupM
