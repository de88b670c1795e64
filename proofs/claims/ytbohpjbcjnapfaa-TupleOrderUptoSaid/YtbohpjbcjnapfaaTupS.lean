/- Chapter 5: numbers, texts and lists, read in plain words; the program's Read. -/
import Derived.Test.YtbohpjbcjnapfaaTupR
import Derived.Test.YtbohpjbcjnapfaaX0
import Derived.Test.YtbohpjbcjnapfaaX20
import Derived.Test.YtbohpjbcjnapfaaX32
import Derived.Test.YtbohpjbcjnapfaaX33
import Derived.Test.YtbohpjbcjnapfaaX34
import Derived.Test.YtbohpjbcjnapfaaX35
namespace Go.Proofs.Ytbohpjbcjnapfaa.TupM
open Go.RowKit Go.Proofs.Ytbohpjbcjnapfaa.X Go.Proofs.YtbohpjbcjnapfaaW.PrintWords Go.Proofs.YtbohpjbcjnapfaaW.PrintLast
set_option linter.unusedVariables false
set_option linter.unusedSimpArgs false

def enc (x : BitVec 64) : Int := (x.toNat : Int)
theorem enc_lt (x : BitVec 64) : 0 ≤ enc x ∧ enc x < 18446744073709551616 := by
  have := x.isLt; unfold enc; omega
theorem wrap_enc (x : BitVec 64) : IntKind.u64.wrap (x.toNat : Int) = enc x := by
  have h := x.isLt
  show ((x.toNat : Int) % 2 ^ 64) = (x.toNat : Int)
  omega
theorem of_enc (x : BitVec 64) : BitVec.ofInt 64 (enc x) = x := by
  unfold enc; rw [BitVec.ofInt_natCast]; exact BitVec.eq_of_toNat_eq (by rw [BitVec.toNat_ofNat]; exact Nat.mod_eq_of_lt x.isLt)
theorem xor_enc (x y : BitVec 64) : Go.bits .xor .u64 (enc x) (enc y) = enc (x ^^^ y) := by
  show IntKind.u64.wrap ((BitVec.ofInt 64 (enc x) ^^^ BitVec.ofInt 64 (enc y)).toNat : Int) = _
  rw [of_enc, of_enc, wrap_enc]
theorem not_enc (x : BitVec 64) : Go.bits .xor .u64 18446744073709551615 (enc x) = enc (~~~ x) := by
  have : (18446744073709551615 : Int) = enc (BitVec.allOnes 64) := by decide
  rw [this, xor_enc, BitVec.allOnes_xor]
theorem enc_of (n : Int) (h0 : 0 ≤ n) (h : n < 18446744073709551616) : n = enc (BitVec.ofInt 64 n) := by
  unfold enc; rw [BitVec.toNat_ofInt]; omega
theorem wrap_u64 (n : Int) : IntKind.u64.wrap n = enc (BitVec.ofInt 64 n) := by
  show n % 2 ^ 64 = _
  unfold enc; rw [BitVec.toNat_ofInt]; omega
theorem wrap64_enc (x : BitVec 64) : wrap64 (enc x) = x.toInt := by
  have h := x.isLt
  rw [BitVec.toInt_eq_toNat_bmod, Int.bmod_def]; unfold enc wrap64; omega
def T : BitVec 64 := 9223372036854775808#64
theorem T_enc : (9223372036854775808 : Int) = enc T := by decide
/-- What a number's eight bytes stand for. -/
def ofR (v : Int) : Int := wrap64 (Go.bits .xor .u64 v 9223372036854775808)
def ofF (v : Int) : Int := wrap64 (Go.bits .xor .u64 (Go.bits .xor .u64 18446744073709551615 v) 9223372036854775808)
def i64 (n : Int) : Prop := -9223372036854775808 ≤ n ∧ n < 9223372036854775808
theorem toInt_ofInt (n : Int) (h : i64 n) : (BitVec.ofInt 64 n).toInt = n := by
  obtain ⟨h0, h1⟩ := h
  rw [BitVec.toInt_ofInt, Int.bmod_def]; omega
theorem ofR_numR (n : Int) (h : i64 n) : ofR (numR n) = n := by
  unfold ofR numR
  rw [wrap_u64, T_enc, xor_enc, xor_enc, BitVec.xor_assoc, BitVec.xor_self, BitVec.xor_zero, wrap64_enc, toInt_ofInt n h]
theorem ofF_numF (n : Int) (h : i64 n) : ofF (numF n) = n := by
  unfold ofF numF numR
  rw [wrap_u64, T_enc, xor_enc, not_enc, not_enc, BitVec.not_not, xor_enc, BitVec.xor_assoc, BitVec.xor_self, BitVec.xor_zero, wrap64_enc, toInt_ofInt n h]
theorem numR_ofR (v : Int) (h0 : 0 ≤ v) (h : v < 18446744073709551616) : numR (ofR v) = v := by
  unfold ofR numR
  rw [enc_of v h0 h, T_enc, xor_enc, wrap64_enc, wrap_u64, BitVec.ofInt_toInt, xor_enc, BitVec.xor_assoc, BitVec.xor_self, BitVec.xor_zero]
theorem numF_ofF (v : Int) (h0 : 0 ≤ v) (h : v < 18446744073709551616) : numF (ofF v) = v := by
  unfold ofF numF numR
  rw [enc_of v h0 h, T_enc, not_enc, xor_enc, wrap64_enc, wrap_u64, BitVec.ofInt_toInt, xor_enc, BitVec.xor_assoc, BitVec.xor_self, BitVec.xor_zero, not_enc, BitVec.not_not]
theorem i64_ofR (v : Int) : i64 (ofR v) := by unfold ofR i64 wrap64; omega
theorem i64_ofF (v : Int) : i64 (ofF v) := by unfold ofF i64 wrap64; omega
/-- The number of bytes, the highest first. -/
def valF (l : List UInt8) : Int := l.foldl (fun v c => v * 256 + (c.toNat : Int)) 0
theorem valF_snoc (l : List UInt8) (c : UInt8) : valF (l ++ [c]) = valF l * 256 + (c.toNat : Int) := by
  unfold valF; rw [List.foldl_append]; rfl
theorem valF_range (l : List UInt8) : 0 ≤ valF l ∧ valF l < 256 ^ l.length := by
  induction hn : l.length generalizing l with
  | zero => rw [List.length_eq_zero_iff] at hn; subst hn; simp [valF]
  | succ n ih =>
    obtain ⟨l', c, rfl⟩ : ∃ l' c, l = l' ++ [c] := ⟨l.dropLast, l.getLast (by intro e; subst e; simp at hn), (List.dropLast_concat_getLast _).symm⟩
    have := ih l' (by simpa using hn)
    have hc := c.toNat_lt
    rw [valF_snoc, Int.pow_succ]
    omega
theorem byte_eq (n : Int) (c : UInt8) (h : n = (c.toNat : Int)) : UInt8.ofNat n.toNat = c := by
  subst h; simp
theorem be_valF (a b c d e f g h : UInt8) : be (valF [a, b, c, d, e, f, g, h]) 8 = [a, b, c, d, e, f, g, h] := by
  have h1 := a.toNat_lt; have h2 := b.toNat_lt; have h3 := c.toNat_lt; have h4 := d.toNat_lt
  have h5 := e.toNat_lt; have h6 := f.toNat_lt; have h7 := g.toNat_lt; have h8 := h.toNat_lt
  show [_, _, _, _, _, _, _, _] = _
  simp only [valF, List.foldl_cons, List.foldl_nil]
  simp only [List.cons.injEq, and_true]
  refine ⟨?_, ?_, ?_, ?_, ?_, ?_, ?_, ?_⟩ <;> refine byte_eq _ _ ?_ <;> simp only [Nat.reduceSub, Nat.reduceMul, Int.reducePow] <;> omega
theorem be8_valF (l : List UInt8) (hl : l.length = 8) : be (valF l) 8 = l := by
  match l, hl with
  | [a, b, c, d, e, f, g, h], _ => exact be_valF a b c d e f g h
theorem valF_be (v : Int) (h0 : 0 ≤ v) (h : v < 18446744073709551616) : valF (be v 8) = v := by
  have e2 : v / 65536 = v / 256 / 256 := by omega
  have e3 : v / 16777216 = v / 65536 / 256 := by omega
  have e4 : v / 4294967296 = v / 16777216 / 256 := by omega
  have e5 : v / 1099511627776 = v / 4294967296 / 256 := by omega
  have e6 : v / 281474976710656 = v / 1099511627776 / 256 := by omega
  have e7 : v / 72057594037927936 = v / 281474976710656 / 256 := by omega
  have e8 : v / 72057594037927936 < 256 := by omega
  have hb : ∀ n : Int, ((UInt8.ofNat (n % 256).toNat).toNat : Int) = n % 256 := by intro n; simp; omega
  show valF [_, _, _, _, _, _, _, _] = v
  simp only [valF, List.foldl_cons, List.foldl_nil, hb, Nat.reduceSub, Nat.reduceMul, Int.reducePow, Nat.sub_zero, Nat.sub_self, Nat.mul_zero, Int.ediv_one]
  generalize v / 72057594037927936 = q7 at *
  generalize v / 281474976710656 = q6 at *
  generalize v / 1099511627776 = q5 at *
  generalize v / 4294967296 = q4 at *
  generalize v / 16777216 = q3 at *
  generalize v / 65536 = q2 at *
  generalize hq1 : v / 256 = q1 at *
  omega

/-- A list of bytes as a text. -/
def tx (l : List UInt8) : ByteArray := ⟨l.toArray⟩
theorem tx_toList (s : ByteArray) : tx s.data.toList = s := rfl
theorem tx_data (l : List UInt8) : (tx l).data.toList = l := rfl
theorem tx_size (l : List UInt8) : (tx l).size = l.length := by
  show l.toArray.size = _
  simp
theorem tx_inj {a b : List UInt8} : tx a = tx b ↔ a = b := ⟨fun h => by have := congrArg (fun s => s.data.toList) h; exact this, fun h => by rw [h]⟩
theorem tx_get (l : List UInt8) (i : Nat) (h : i < (tx l).size) : (tx l)[i] = l[i]'(by rw [tx_size] at h; exact h) := by
  show (l.toArray)[i]'(by rw [List.size_toArray]; rw [tx_size] at h; exact h) = _
  exact List.getElem_toArray _
theorem tx_ext (l : List UInt8) (a b : Nat) : (tx l).extract a b = tx ((l.drop a).take (b - a)) := by
  have h : ((tx l).extract a b).data.toList = (l.drop a).take (b - a) := by
    rw [ByteArray.data_extract, Array.toList_extract, List.extract_eq_take_drop]; rfl
  rw [← h, tx_toList]
theorem tx_from (l : List UInt8) (a : Nat) : (tx l).extract a (tx l).size = tx (l.drop a) := by
  rw [tx_ext, tx_size, List.take_of_length_le (by rw [List.length_drop]; omega)]
theorem tx_upto (l : List UInt8) (b : Nat) : (tx l).extract 0 b = tx (l.take b) := by
  rw [tx_ext, List.drop_zero, Nat.sub_zero]
/-- What groups begin with, over lists. -/
def rdL (l : List UInt8) (acc : List UInt8) : Option (List UInt8 × List UInt8) :=
  if h : l.length ≤ 8 then none else
    if (l[8]'(by omega)).toNat = 9 then rdL (l.drop 9) (acc ++ l.take 8)
    else if (l[8]'(by omega)).toNat < 9 then some (acc ++ l.take (l[8]'(by omega)).toNat, l.drop 9) else none
termination_by l.length
decreasing_by rw [List.length_drop]; omega
theorem rdB_eq (l acc : List UInt8) : rdB (tx l) acc = (rdL l acc).map fun q => (q.1, tx q.2) := by
  induction hn : l.length using Nat.strongRecOn generalizing l acc with
  | _ n ih =>
    rw [rdB, rdL]
    by_cases h8 : l.length ≤ 8
    · rw [dif_pos (by rw [tx_size]; exact h8), dif_pos h8]; rfl
    · rw [dif_neg (by rw [tx_size]; exact h8), dif_neg h8]
      simp only [tx_get]
      have e1 : ((tx l).extract 0 8).data.toList = l.take 8 := by rw [tx_upto, tx_data]
      by_cases h9 : (l[8]'(by omega)).toNat = 9
      · rw [if_pos h9, if_pos h9, tx_from, e1]
        exact ih _ (by rw [List.length_drop]; omega) _ _ rfl
      · rw [if_neg h9, if_neg h9]
        by_cases hl : (l[8]'(by omega)).toNat < 9
        · rw [if_pos hl, if_pos hl, tx_from, tx_upto, tx_data]; rfl
        · rw [if_neg hl, if_neg hl]; rfl
theorem grp_long {t : List UInt8} (h : 8 < t.length) : grp t = t.take 8 ++ 9 :: grp (t.drop 8) := by rw [grp, if_pos h]
theorem grp_short {t : List UInt8} (h : t.length ≤ 8) : grp t = t ++ List.replicate (8 - t.length) 0 ++ [UInt8.ofNat t.length] := by rw [grp, if_neg (by omega)]
/-- There and back. -/
theorem rdL_grp (t r acc : List UInt8) : rdL (grp t ++ r) acc = some (acc ++ t, r) := by
  induction hn : t.length using Nat.strongRecOn generalizing t acc with
  | _ n ih =>
    by_cases h8 : 8 < t.length
    · have e : grp t ++ r = t.take 8 ++ (9 :: (grp (t.drop 8) ++ r)) := by rw [grp_long h8]; simp
      have hk : (t.take 8).length = 8 := by rw [List.length_take]; omega
      rw [e, rdL, dif_neg (by simp; omega)]
      have h9 : ∀ h, ((t.take 8 ++ (9 :: (grp (t.drop 8) ++ r)))[8]'h) = 9 := by
        intro h; rw [List.getElem_append_right (by omega)]; simp [hk]
      rw [h9, if_pos (by decide)]
      have d9 : (t.take 8 ++ (9 :: (grp (t.drop 8) ++ r))).drop 9 = grp (t.drop 8) ++ r := by
        rw [List.drop_append, hk, List.drop_of_length_le (by omega)]; rfl
      have t8 : (t.take 8 ++ (9 :: (grp (t.drop 8) ++ r))).take 8 = t.take 8 := by
        rw [List.take_append_of_le_length (by omega), List.take_of_length_le (by omega)]
      rw [d9, t8, ih _ (by rw [List.length_drop]; omega) (t.drop 8) _ rfl, List.append_assoc, List.take_append_drop]
    · have hz : (t ++ List.replicate (8 - t.length) (0 : UInt8)).length = 8 := by simp; omega
      have e : grp t ++ r = (t ++ List.replicate (8 - t.length) 0) ++ (UInt8.ofNat t.length :: r) := by rw [grp_short (by omega)]; simp
      rw [e, rdL, dif_neg (by simp; omega)]
      have hb : (UInt8.ofNat t.length).toNat = t.length := by simp; omega
      have h9 : ∀ h, (((t ++ List.replicate (8 - t.length) 0) ++ (UInt8.ofNat t.length :: r))[8]'h) = UInt8.ofNat t.length := by
        intro h; rw [List.getElem_append_right (by omega)]; simp [hz]
      rw [h9, hb, if_neg (by omega), if_pos (by omega)]
      have d9 : ((t ++ List.replicate (8 - t.length) 0) ++ (UInt8.ofNat t.length :: r)).drop 9 = r := by
        rw [List.drop_append, hz, List.drop_of_length_le (by omega)]; rfl
      have tn : ((t ++ List.replicate (8 - t.length) 0) ++ (UInt8.ofNat t.length :: r)).take t.length = t := by
        rw [List.append_assoc, List.take_append_of_le_length (by omega), List.take_of_length_le (by omega)]
      rw [d9, tn]
/-- What is read stood there. -/
theorem rdL_some {l acc t r : List UInt8} (h : rdL l acc = some (t, r)) : r.length + 9 ≤ l.length ∧ t.length ≤ acc.length + (l.length - r.length) ∧ ∃ c, l = c ++ r := by
  induction hn : l.length using Nat.strongRecOn generalizing l acc with
  | _ n ih =>
    rw [rdL] at h
    by_cases h8 : l.length ≤ 8
    · rw [dif_pos h8] at h; cases h
    · rw [dif_neg h8] at h
      by_cases h9 : (l[8]'(by omega)).toNat = 9
      · rw [if_pos h9] at h
        obtain ⟨h1, h2, c, hc⟩ := ih _ (by rw [List.length_drop]; omega) h rfl
        rw [List.length_drop] at h1 h2
        rw [List.length_append, List.length_take] at h2
        exact ⟨by omega, by omega, l.take 9 ++ c, by rw [List.append_assoc, ← hc, List.take_append_drop]⟩
      · rw [if_neg h9] at h
        by_cases hl : (l[8]'(by omega)).toNat < 9
        · rw [if_pos hl] at h
          simp only [Option.some.injEq, Prod.mk.injEq] at h
          obtain ⟨rfl, rfl⟩ := h
          rw [List.length_drop, List.length_append, List.length_take]
          exact ⟨by omega, by omega, l.take 9, (List.take_append_drop 9 l).symm⟩
        · rw [if_neg hl] at h; cases h
/-- The part that a text begins with. -/
def pt : List UInt8 → Option (S52 × List UInt8)
  | [] => none
  | c :: l => if c.toNat = 1 then (rdL l []).map fun q => (⟨1, tx q.1, 0⟩, q.2)
    else if c.toNat = 2 then (if l.length < 8 then none else some (⟨2, tx [], ofR (valF (l.take 8))⟩, l.drop 8))
    else if c.toNat = 3 then (if l.length < 8 then none else some (⟨3, tx [], ofF (valF (l.take 8))⟩, l.drop 8))
    else none
/-- It is a part, within its ranges. -/
def okP (p : S52) : Prop := vld p = true ∧ i64 p.f2
theorem vld_cases {p : S52} (h : vld p = true) : (p.f0 = 1 ∧ p.f2 = 0) ∨ (p.f0 = 2 ∧ p.f1 = tx []) ∨ (p.f0 = 3 ∧ p.f1 = tx []) := by
  unfold vld at h
  simp only [Bool.or_eq_true, Bool.and_eq_true, beq_iff_eq] at h
  have e : p.f1.toList = [] → p.f1 = tx [] := fun h => by
    have : p.f1.data.toList = [] := by rw [← h]; simp [ByteArray.toList_eq]
    rw [← tx_toList p.f1, this]
  rcases h with h | ⟨h | h, h'⟩
  · exact .inl h
  · exact .inr (.inl ⟨h, e h'⟩)
  · exact .inr (.inr ⟨h, e h'⟩)

theorem numR_range (n : Int) : 0 ≤ numR n ∧ numR n < 18446744073709551616 := by
  unfold numR; rw [wrap_u64, T_enc, xor_enc]; exact enc_lt _
theorem numF_range (n : Int) : 0 ≤ numF n ∧ numF n < 18446744073709551616 := by
  unfold numF numR; rw [wrap_u64, T_enc, xor_enc, not_enc]; exact enc_lt _
theorem pt_enc (p : S52) (hp : okP p) (r : List UInt8) : pt (encP p ++ r) = some (p, r) := by
  obtain ⟨hv, hi⟩ := hp
  rcases vld_cases hv with h | h | h <;> obtain ⟨k, t, n⟩ := p <;> obtain ⟨rfl, rfl⟩ := h
  · show pt ((1 : UInt8) :: (grp t.data.toList ++ r)) = _
    simp only [pt]
    rw [if_pos (by decide), rdL_grp]; rfl
  · show pt ((2 : UInt8) :: (be (numR n) 8 ++ r)) = _
    have hl : (be (numR n) 8).length = 8 := be_len _ _
    simp only [pt]
    rw [if_neg (by decide), if_pos (by decide), if_neg (by rw [List.length_append]; omega), List.take_append_of_le_length (by omega), List.take_of_length_le (by omega), valF_be _ (numR_range n).1 (numR_range n).2, ofR_numR n hi, List.drop_append, List.drop_of_length_le (by omega), hl]
    rfl
  · show pt ((3 : UInt8) :: (be (numF n) 8 ++ r)) = _
    have hl : (be (numF n) 8).length = 8 := be_len _ _
    simp only [pt]
    rw [if_neg (by decide), if_neg (by decide), if_pos (by decide), if_neg (by rw [List.length_append]; omega), List.take_append_of_le_length (by omega), List.take_of_length_le (by omega), valF_be _ (numF_range n).1 (numF_range n).2, ofF_numF n hi, List.drop_append, List.drop_of_length_le (by omega), hl]
    rfl
theorem val8_range (l : List UInt8) (h : 8 ≤ l.length) : 0 ≤ valF (l.take 8) ∧ valF (l.take 8) < 18446744073709551616 := by
  have := valF_range (l.take 8)
  rw [List.length_take, Nat.min_eq_left h] at this
  exact this
theorem byte_of {c : UInt8} {n : Nat} (h : c.toNat = n) (d : UInt8) (hd : d.toNat = n) : c = d := UInt8.toNat_inj.1 (h.trans hd.symm)
theorem tl_nil : (tx []).toList = [] := by
  first | rfl | decide | simp [tx, ByteArray.toList_eq]
theorem vld_num (k n : Int) (h : k = 2 ∨ k = 3) : vld ⟨k, tx [], n⟩ = true := by
  unfold vld
  simp only [tl_nil]
  rcases h with rfl | rfl <;> simp
theorem pt_some {l : List UInt8} {p : S52} {r : List UInt8} (h : pt l = some (p, r)) : okP p ∧ r.length + 9 ≤ l.length ∧ (encP p).length ≤ 12 * (l.length - r.length) ∧ (p.f0 ≠ 1 → encP p ++ r = l) ∧ (p.f0 = 1 → ∃ c l', l = c :: l' ∧ c.toNat = 1 ∧ rdL l' [] = some (p.f1.data.toList, r)) := by
  match l, h with
  | c :: l, h =>
    simp only [pt] at h
    by_cases h1 : c.toNat = 1
    · rw [if_pos h1] at h
      obtain ⟨q, hq, he⟩ := Option.map_eq_some_iff.1 h
      obtain ⟨t, r'⟩ := q
      simp only [Prod.mk.injEq] at he
      obtain ⟨rfl, rfl⟩ := he
      obtain ⟨e1, e2, e3⟩ := rdL_some hq
      refine ⟨⟨rfl, by unfold i64; simp⟩, by rw [List.length_cons]; omega, ?_, fun h => absurd rfl h, fun _ => ⟨c, l, rfl, h1, hq⟩⟩
      show ((1 : UInt8) :: grp t).length ≤ _
      have := grp_len t
      simp only [List.length_cons, List.length_nil] at e2 ⊢
      omega
    · rw [if_neg h1] at h
      by_cases h2 : c.toNat = 2
      · rw [if_pos h2] at h
        by_cases h8 : l.length < 8
        · rw [if_pos h8] at h; cases h
        · rw [if_neg h8] at h
          simp only [Option.some.injEq, Prod.mk.injEq] at h
          obtain ⟨rfl, rfl⟩ := h
          have e : encP ⟨2, tx [], ofR (valF (l.take 8))⟩ = 2 :: be (numR (ofR (valF (l.take 8)))) 8 := rfl
          have hr := val8_range l (by omega)
          rw [numR_ofR _ hr.1 hr.2, be8_valF _ (by rw [List.length_take]; omega)] at e
          refine ⟨⟨vld_num _ _ (.inl rfl), i64_ofR _⟩, by rw [List.length_cons, List.length_drop]; omega, ?_, fun _ => ?_, fun h => by cases h⟩
          · rw [e, List.length_cons, List.length_cons, List.length_take, List.length_drop]; omega
          · rw [e, List.cons_append, List.take_append_drop, byte_of h2 2 rfl]
      · rw [if_neg h2] at h
        by_cases h3 : c.toNat = 3
        · rw [if_pos h3] at h
          by_cases h8 : l.length < 8
          · rw [if_pos h8] at h; cases h
          · rw [if_neg h8] at h
            simp only [Option.some.injEq, Prod.mk.injEq] at h
            obtain ⟨rfl, rfl⟩ := h
            have e : encP ⟨3, tx [], ofF (valF (l.take 8))⟩ = 3 :: be (numF (ofF (valF (l.take 8)))) 8 := rfl
            have hr := val8_range l (by omega)
            rw [numF_ofF _ hr.1 hr.2, be8_valF _ (by rw [List.length_take]; omega)] at e
            refine ⟨⟨vld_num _ _ (.inr rfl), i64_ofF _⟩, by rw [List.length_cons, List.length_drop]; omega, ?_, fun _ => ?_, fun h => by cases h⟩
            · rw [e, List.length_cons, List.length_cons, List.length_take, List.length_drop]; omega
            · rw [e, List.cons_append, List.take_append_drop, byte_of h3 3 rfl]
        · rw [if_neg h3] at h; cases h
/-- All parts, leniently. -/
def ptA : Nat → List UInt8 → Option (List S52)
  | 0, _ => none
  | n + 1, l => if l = [] then some [] else (pt l).bind fun q => (ptA n q.2).map (q.1 :: ·)
/-- All parts, each as it is written. -/
def psA : Nat → List UInt8 → Option (List S52)
  | 0, _ => none
  | n + 1, l => if l = [] then some [] else (pt l).bind fun q => if encP q.1 ++ q.2 = l then (psA n q.2).map (q.1 :: ·) else none
theorem encL_cons (p : S52) (l : List S52) (h : vld p = true) : encL (p :: l) = encP p ++ encL l := by
  unfold encL; rw [List.flatMap_cons, if_pos h]
theorem canon : ∀ (n : Nat) (l : List UInt8), psA n l = (ptA n l).bind fun ps => if encL ps = l then some ps else none
  | 0, l => rfl
  | n + 1, l => by
    simp only [psA, ptA]
    by_cases hl : l = []
    · subst hl; rfl
    · rw [if_neg hl, if_neg hl]
      cases hp : pt l with
      | none => rfl
      | some q =>
        obtain ⟨p, r⟩ := q
        obtain ⟨ok, h1, _⟩ := pt_some hp
        simp only [Option.bind_some]
        rw [canon n r]
        cases ha : ptA n r with
        | none => simp
        | some ps =>
          simp only [Option.bind_some, Option.map_some]
          rw [encL_cons p ps ok.1]
          by_cases he : encP p ++ encL ps = l
          · have := pt_enc p ok (encL ps)
            rw [he, hp] at this
            simp only [Option.some.injEq, Prod.mk.injEq, true_and] at this
            subst this
            rw [if_pos he, if_pos he, if_pos rfl]; rfl
          · rw [if_neg he]
            by_cases h2 : encP p ++ r = l
            · rw [if_pos h2]
              have : encL ps ≠ r := fun e => he (by rw [e]; exact h2)
              rw [if_neg this]; rfl
            · rw [if_neg h2]

theorem tx_tl (l : List UInt8) : (tx l).toList = l := by rw [ByteArray.toList_eq]; rfl
theorem or_add64 (v c : Int) (h0 : 0 ≤ v) (h1 : v < 72057594037927936) (h2 : 0 ≤ c) (h3 : c < 256) : Go.bits .or .u64 (IntKind.u64.wrap (v * 256)) (IntKind.u64.wrap c) = v * 256 + c := by
  have l : Go.bits .or .u64 (IntKind.u64.wrap (v * 256)) (IntKind.u64.wrap c) = IntKind.u64.wrap ((BitVec.ofInt 64 (IntKind.u64.wrap (v * 256)) ||| BitVec.ofInt 64 (IntKind.u64.wrap c)).toNat : Int) := rfl
  obtain ⟨a, rfl⟩ := Int.eq_ofNat_of_zero_le h0
  obtain ⟨b, rfl⟩ := Int.eq_ofNat_of_zero_le h2
  have w : ∀ n : Int, IntKind.u64.wrap n = n % 18446744073709551616 := fun _ => rfl
  have hw : IntKind.u64.wrap ((a : Int) * 256) = ((a * 256 : Nat) : Int) := by rw [w]; omega
  have hw2 : IntKind.u64.wrap (b : Int) = ((b : Nat) : Int) := by rw [w]; omega
  rw [l, hw, hw2, BitVec.toNat_or, BitVec.ofInt_natCast, BitVec.ofInt_natCast, BitVec.toNat_ofNat, BitVec.toNat_ofNat, Nat.mod_eq_of_lt (by omega), Nat.mod_eq_of_lt (by omega)]
  have : a * 256 ||| b = a * 256 + b := by
    have := Nat.two_pow_add_eq_or_of_lt (i := 8) (b := b) (by omega) a
    rw [Nat.mul_comm] at this
    exact this.symm
  rw [this, w]; omega
theorem bt_tx (l : List UInt8) (i : Nat) (h : i < l.length) : bt (tx l) (i : Int) = ((l[i]'h).toNat : Int) := by
  unfold bt
  rw [dif_pos (by rw [tx_size]; omega)]
  rw [tx_get]; rfl
theorem valF_step (l : List UInt8) (i : Nat) (h : i < l.length) (h8 : i < 8) : Go.bits .or .u64 (IntKind.u64.wrap (valF (l.take i) * 256)) (IntKind.u64.wrap (bt (tx l) (i : Int))) = valF (l.take (i + 1)) := by
  have hr := valF_range (l.take i)
  rw [List.length_take, Nat.min_eq_left (by omega)] at hr
  have hp : (256 : Int) ^ i ≤ 72057594037927936 := by
    have : i = 0 ∨ i = 1 ∨ i = 2 ∨ i = 3 ∨ i = 4 ∨ i = 5 ∨ i = 6 ∨ i = 7 := by omega
    rcases this with rfl | rfl | rfl | rfl | rfl | rfl | rfl | rfl <;> decide
  have hc := (l[i]'h).toNat_lt
  rw [bt_tx l i h, or_add64 _ _ hr.1 (by omega) (by omega) (by omega), List.take_succ_eq_append_getElem h, valF_snoc]
theorem w64_succ (i : Nat) (h : i < 4294967296) : wrap64 ((i : Int) + 1) = ((i + 1 : Nat) : Int) := by unfold wrap64; omega
theorem value_l0 (l : List UInt8) (h : 8 ≤ l.length) : ∀ (d i k : Nat), i + d = 8 → d < k → tuple_value.l0 k (tx l) (valF (l.take i)) (i : Int) = some (valF (l.take 8))
  | 0, i, k, e, hk => by
    obtain ⟨k, rfl⟩ : ∃ q, k = q + 1 := ⟨k - 1, by omega⟩
    obtain rfl : i = 8 := by omega
    simp only [tuple_value.l0]
    rw [if_neg (by omega)]
  | d + 1, i, k, e, hk => by
    obtain ⟨k, rfl⟩ : ∃ q, k = q + 1 := ⟨k - 1, by omega⟩
    simp only [tuple_value.l0]
    rw [if_pos (by omega), if_pos (by omega), if_pos (by rw [tx_size]; omega), valF_step l i (by omega) (by omega), w64_succ i (by omega)]
    exact value_l0 l h d (i + 1) k (by omega) (by omega)
theorem value_f (l : List UInt8) (h : 8 ≤ l.length) (k : Nat) (hk : 9 ≤ k) : tuple_value.f k (tx l) = some (valF (l.take 8)) := value_l0 l h 8 0 k (by omega) (by omega)
theorem reads_f (l : List UInt8) (h : l.length ≤ 140737488355328) : tuple_reads.f (tx l) = some (match rdL l [] with | some q => (tx q.1, tx q.2, true) | none => (tx [], tx [], false)) := by
  unfold tuple_reads.f
  rw [if_pos (by rw [tx_size]; exact h)]
  have e := rdB_eq l []
  cases hr : rdL l [] with
  | none => rw [hr] at e; rw [rdF_none e]; rfl
  | some q => obtain ⟨t, r⟩ := q; rw [hr] at e; rw [rdF_some e]; rfl
theorem w64_byte (c : UInt8) : wrap64 (c.toNat : Int) = (c.toNat : Int) := by have := c.toNat_lt; unfold wrap64; omega
theorem part_f (c : UInt8) (l : List UInt8) (h : l.length ≤ 140737488355328) (k : Nat) (hk : 10 ≤ k) :
    ∃ q, tuple_part.f k (tx (c :: l)) = some q ∧ match pt (c :: l) with | some (p, r) => q = (p.f0, p.f1, p.f2, tx r, true) | none => q.2.2.2.2 = false := by
  obtain ⟨k, rfl⟩ : ∃ q, k = q + 1 := ⟨k - 1, by omega⟩
  have hb : bt (tx (c :: l)) 0 = (c.toNat : Int) := bt_tx (c :: l) 0 (by simp)
  have hx : (tx (c :: l)).extract 1 (tx (c :: l)).size = tx l := by rw [tx_from]; rfl
  unfold tuple_part.f
  rw [if_pos (by rw [tx_size, List.length_cons]; omega), if_pos (by rw [tx_size, List.length_cons]; omega), hb, w64_byte, hx]
  simp only [pt]
  by_cases h1 : c.toNat = 1
  · rw [if_pos (by omega), if_pos h1, reads_f l h]
    cases hr : rdL l [] with
    | none => exact ⟨_, rfl, rfl⟩
    | some q => obtain ⟨t, r⟩ := q; exact ⟨_, rfl, rfl⟩
  · rw [if_neg (by omega), if_neg h1]
    by_cases h2 : c.toNat = 2
    · rw [if_pos (by omega), if_pos h2]
      simp only [tuple_part.j0]
      by_cases h8 : l.length < 8
      · rw [if_pos (by rw [tx_size]; exact decide_eq_true (by omega)), if_pos h8]
        exact ⟨_, rfl, rfl⟩
      · rw [if_neg (by rw [tx_size]; simp; omega), if_neg h8, value_f l (by omega) k (by omega)]
        simp only [Option.bind_some]
        rw [if_neg (by omega), if_pos (by rw [tx_size]; omega), tx_from]
        exact ⟨_, rfl, by rw [h2]; rfl⟩
    · rw [if_neg (by omega), if_neg h2]
      by_cases h3 : c.toNat = 3
      · rw [if_pos (by omega), if_pos h3]
        simp only [tuple_part.j0]
        by_cases h8 : l.length < 8
        · rw [if_pos (by rw [tx_size]; exact decide_eq_true (by omega)), if_pos h8]
          exact ⟨_, rfl, rfl⟩
        · rw [if_neg (by rw [tx_size]; simp; omega), if_neg h8, value_f l (by omega) k (by omega)]
          simp only [Option.bind_some]
          rw [if_pos (by omega), if_pos (by rw [tx_size]; omega), tx_from]
          exact ⟨_, rfl, by rw [h3]; rfl⟩
      · rw [if_neg (by omega), if_neg h3]
        simp only [tuple_part.j0]
        rw [if_pos trivial]
        exact ⟨_, rfl, rfl⟩
theorem write_f (l : List S52) (h : (encL l).length + 40 ≤ 140737488355328) : tuple_Write.f l = some (wrF l) := by unfold tuple_Write.f; rw [if_pos h]
theorem encL_append (a b : List S52) : encL (a ++ b) = encL a ++ encL b := by unfold encL; rw [List.flatMap_append]
theorem read_l0 (b : List UInt8) : ∀ (n : Nat) (l : List UInt8) (x4 : List S52), l.length < n → l.length + x4.length ≤ 4398046511000 → (∀ p ∈ x4, okP p) → (encL x4).length + 12 * l.length ≤ 140737488355000 →
    ∃ K, ∀ k, K ≤ k → tuple_Read.l0 k (tx b) x4 (tx l) = some (match ptA n l with | none => ([], 4) | some ps => if encL (x4 ++ ps) = b then (x4 ++ ps, 0) else ([], 4))
  | 0, l, x4, hn, _, _, _ => by omega
  | n + 1, [], x4, hn, hl, hv, he => by
    refine ⟨1, fun k hk => ?_⟩
    obtain ⟨k, rfl⟩ : ∃ q, k = q + 1 := ⟨k - 1, by omega⟩
    have ha : x4.all vld = true := List.all_eq_true.2 fun p hp => (hv p hp).1
    simp only [tuple_Read.l0, ptA]
    rw [if_pos (tx_tl []), if_pos trivial, write_f x4 (by omega)]
    simp only [Option.bind_some]
    unfold wrF
    rw [if_pos ha]
    simp only [List.append_nil]
    rw [if_pos trivial]
    have e1 : (⟨(encL x4).toArray⟩ : ByteArray).toList = encL x4 := tx_tl _
    rw [e1, tx_tl]
    by_cases hc : encL x4 = b
    · rw [if_pos hc, if_pos hc]
    · rw [if_neg hc, if_neg hc]
  | n + 1, c :: l, x4, hn, hl, hv, he => by
    simp only [List.length_cons] at hn hl he
    cases hp : pt (c :: l) with
    | none =>
      refine ⟨12, fun k hk => ?_⟩
      obtain ⟨k, rfl⟩ : ∃ q, k = q + 1 := ⟨k - 1, by omega⟩
      obtain ⟨q, hq, hm⟩ := part_f c l (by omega) k (by omega)
      rw [hp] at hm
      simp only at hm
      simp only [tuple_Read.l0, ptA]
      rw [if_neg (by rw [tx_tl]; simp), if_neg (by simp), hq, hp]
      simp only [Option.bind_some, Option.bind_none]
      rw [hm]; rfl
    | some q =>
      obtain ⟨p, r⟩ := q
      obtain ⟨ok, h1, h2, _⟩ := pt_some hp
      simp only [List.length_cons] at h1 h2
      have ex : encL (x4 ++ [p]) = encL x4 ++ encP p := by rw [encL_append, encL_cons p [] ok.1]; simp [encL]
      obtain ⟨K, hK⟩ := read_l0 b n r (x4 ++ [p]) (by omega) (by rw [List.length_append, List.length_singleton]; omega) (by
        intro p' hp'
        rcases List.mem_append.1 hp' with h | h
        · exact hv p' h
        · rw [List.mem_singleton.1 h]; exact ok) (by rw [ex, List.length_append]; omega)
      refine ⟨K + 12, fun k hk => ?_⟩
      obtain ⟨k, rfl⟩ : ∃ q, k = q + 1 := ⟨k - 1, by omega⟩
      obtain ⟨q, hq, hm⟩ := part_f c l (by omega) k (by omega)
      rw [hp] at hm
      simp only at hm
      subst hm
      simp only [tuple_Read.l0, ptA]
      rw [if_neg (by rw [tx_tl]; simp), if_neg (by simp), hq, hp]
      simp only [Option.bind_some]
      rw [if_pos trivial, if_pos (by omega)]
      rw [show (⟨p.f0, p.f1, p.f2⟩ : S52) = p from rfl, hK k (by omega)]
      cases ptA n r with
      | none => rfl
      | some ps => simp [List.append_assoc]
/-- THE PROGRAM'S Read. -/
theorem read_f (b : List UInt8) (h : b.length ≤ 4398046511000) : ∃ K, ∀ k, K ≤ k → tuple_Read.f k (tx b) = some (match psA (b.length + 1) b with | none => ([], 4) | some ps => (ps, 0)) := by
  obtain ⟨K, hK⟩ := read_l0 b (b.length + 1) b [] (by omega) (by simp; omega) (by simp) (by simp [encL]; omega)
  refine ⟨K, fun k hk => ?_⟩
  have := hK k hk
  unfold tuple_Read.f
  rw [this, canon]
  cases ptA (b.length + 1) b with
  | none => rfl
  | some ps =>
    simp only [Option.bind_some, List.nil_append]
    by_cases hc : encL ps = b
    · rw [if_pos hc, if_pos hc]
    · rw [if_neg hc, if_neg hc]
end Go.Proofs.Ytbohpjbcjnapfaa.TupM
