/- Chapter 2: plain laws of blocks: what is written in pieces is written whole; the padding. -/
import Derived.Test.YthpnppfpmhlkaaaShaX
namespace Go.Proofs.Ythpnppfpmhlkaaa.Sha
open Go Go.RowKit Go.Proofs.YthpnppfpmhlkaaaW.PrintWords Go.Proofs.YthpnppfpmhlkaaaW.PrintLast
set_option linter.unusedVariables false
set_option linter.unusedSimpArgs false

theorem blk8_append (s : S8) (l t : List UInt8) : blk8 (blk8 s l).1 ((blk8 s l).2 ++ t) = blk8 s (l ++ t) := by
  induction hn : l.length using Nat.strongRecOn generalizing l s with
  | _ n ih =>
    by_cases h : 64 ≤ l.length
    · rw [blk8_long s l h, blk8_long s (l ++ t) (by rw [List.length_append]; omega), List.take_append_of_le_length h, List.drop_append_of_le_length h]
      exact ih (l.drop 64).length (by rw [List.length_drop]; omega) _ _ rfl
    · rw [blk8_short s l h]
/-- So many zeros stand behind the bit. -/
def pz (m : Nat) : Nat := (119 - m % 64) % 64
theorem pz_mod (m : Nat) : (m + 1 + pz m) % 64 = 56 := by unfold pz; omega
theorem pz_same (m : Nat) : pz (m % 64) = pz m := by unfold pz; omega
theorem pz_lt (m : Nat) : pz m < 64 := by unfold pz; omega
/-- Eight bytes, the highest first. -/
def be8 (v : BitVec 64) : List UInt8 := (List.range 8).map fun j => UInt8.ofNat (v.toNat / 2 ^ (8 * (7 - j)) % 256)
def tailOf (m : Nat) (bits : BitVec 64) : List UInt8 := [128] ++ List.replicate (pz m) 0 ++ be8 bits
theorem tail_same (m : Nat) (v : BitVec 64) : tailOf (m % 64) v = tailOf m v := by unfold tailOf; rw [pz_same]
theorem tail_whole (l : List UInt8) (v : BitVec 64) : (l ++ tailOf l.length v).length % 64 = 0 := by
  have := pz_mod l.length
  unfold tailOf be8
  rw [List.length_append, List.length_append, List.length_append, List.length_replicate, List.length_map, List.length_range, List.length_singleton]; omega
/-- The state's 32 bytes. -/
def out8 (s : S8) : List UInt8 := (lst s).flatMap fun x => (List.range 4).map fun j => UInt8.ofNat (x.toNat / 2 ^ (8 * (3 - j)) % 256)
/-- THE HASH. -/
def sumF (l : List UInt8) : List UInt8 := out8 (blk8 H0 (l ++ tailOf l.length (BitVec.ofNat 64 (8 * l.length)))).1
/-- What a writer tells: it has read l in any pieces. -/
theorem sum_pieces (l : List UInt8) (v : BitVec 64) : blk8 (blk8 H0 l).1 ((blk8 H0 l).2 ++ tailOf (blk8 H0 l).2.length v) = blk8 H0 (l ++ tailOf l.length v) := by
  rw [blk8_mod, tail_same, blk8_append]
theorem blk_one (s : S8) (l : List UInt8) (h : l.length = 64) : (blk8 s l).1 = turn K0 s l := by
  rw [blk8_long s l (by omega), List.take_of_length_le (by omega), blk8_short _ _ (by rw [List.length_drop]; omega)]
set_option maxRecDepth 100000 in
theorem sum_empty : sumF [] = [227, 176, 196, 66, 152, 252, 28, 20, 154, 251, 244, 200, 153, 111, 185, 36, 39, 174, 65, 228, 100, 155, 147, 76, 164, 149, 153, 27, 120, 82, 184, 85] := by
  unfold sumF
  rw [blk_one _ _ (by kernel_rfl)]
  kernel_rfl
set_option maxRecDepth 100000 in
theorem sum_abc : sumF [97, 98, 99] = [186, 120, 22, 191, 143, 1, 207, 234, 65, 65, 64, 222, 93, 174, 34, 35, 176, 3, 97, 163, 150, 23, 122, 156, 180, 16, 255, 97, 242, 0, 21, 173] := by
  unfold sumF
  rw [blk_one _ _ (by kernel_rfl)]
  kernel_rfl
end Go.Proofs.Ythpnppfpmhlkaaa.Sha
