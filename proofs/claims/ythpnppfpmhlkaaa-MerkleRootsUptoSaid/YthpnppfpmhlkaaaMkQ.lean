/- Chapter 3: what the law knows of hashes. -/
import Derived.Test.YthpnppfpmhlkaaaMkP
import Derived.KernelRfl
namespace Go.Proofs.Ythpnppfpmhlkaaa.Sha
open Go.RowKit Go.Proofs.Ythpnppfpmhlkaaa.X
set_option linter.unusedVariables false
set_option linter.unusedSimpArgs false

theorem sumF_open (l : List UInt8) (n : Nat) (h : l.length = n) : sumF l = out8 (blk8 H0 (l ++ tailOf n (BitVec.ofNat 64 (8 * n)))).1 := by subst h; rfl
def e0 : List UInt8 := [110, 52, 11, 156, 255, 179, 122, 152, 156, 165, 68, 230, 187, 120, 10, 44, 120, 144, 29, 63, 179, 55, 56, 118, 133, 17, 163, 6, 23, 175, 160, 29]
def e1 : List UInt8 := [150, 162, 150, 210, 36, 242, 133, 198, 123, 238, 147, 195, 15, 138, 48, 145, 87, 240, 218, 163, 93, 197, 184, 126, 65, 11, 120, 99, 10, 9, 207, 199]
def e2 : List UInt8 := [250, 197, 66, 3, 231, 204, 105, 108, 240, 223, 203, 66, 201, 42, 29, 157, 186, 247, 10, 217, 230, 33, 244, 189, 141, 152, 102, 47, 0, 227, 193, 37]
def pad1 : List UInt8 := [0] ++ tailOf 1 (BitVec.ofNat 64 8)
theorem pad1_len : pad1.length = 64 := by kernel_rfl
set_option maxRecDepth 100000 in
theorem pad1_out : out8 (turn K0 H0 pad1) = e0 := by kernel_rfl
theorem leaf_e : leafF [] = e0 := by
  show sumF [0] = _
  rw [sumF_open [0] 1 rfl]
  show out8 (blk8 H0 pad1).1 = _
  rw [blk_one _ _ pad1_len]; exact pad1_out
def pad2 : List UInt8 := [0, 0] ++ tailOf 2 (BitVec.ofNat 64 16)
theorem pad2_len : pad2.length = 64 := by kernel_rfl
set_option maxRecDepth 100000 in
theorem pad2_out : out8 (turn K0 H0 pad2) = e1 := by kernel_rfl
theorem leaf_0 : leafF [0] = e1 := by
  show sumF [0, 0] = _
  rw [sumF_open [0, 0] 2 rfl]
  show out8 (blk8 H0 pad2).1 = _
  rw [blk_one _ _ pad2_len]; exact pad2_out
def pad3 : List UInt8 := (1 :: (e0 ++ e1)) ++ tailOf 65 (BitVec.ofNat 64 520)
theorem pad3_len : pad3.length = 128 := by kernel_rfl
set_option maxRecDepth 100000 in
theorem pad3_out : out8 (turn K0 (turn K0 H0 (pad3.take 64)) (pad3.drop 64)) = e2 := by kernel_rfl
theorem node_e : nodeF e0 e1 = e2 := by
  show sumF (1 :: (e0 ++ e1)) = _
  rw [sumF_open (1 :: (e0 ++ e1)) 65 rfl]
  show out8 (blk8 H0 pad3).1 = _
  rw [blk8_long H0 pad3 (by rw [pad3_len]; decide), blk_one _ _ (by rw [List.length_drop, pad3_len])]
  exact pad3_out
/-- The leaf of the empty text, and the root of two texts. -/
theorem root_two : rootF [⟨#[]⟩, ⟨#[0]⟩] = e2 := by
  unfold rootF
  rw [if_neg (by simp), up_more _ (by rw [tl_len]; decide), up_one _ (by rw [abv_len, tl_len]; decide), abv_in _ 0 (by rw [tl_len]; decide)]
  show nodeF (leafF []) (leafF [0]) = _
  rw [leaf_e, leaf_0, node_e]
theorem path_three (a b c : ByteArray) : pathF [a, b, c] 2 = [nodeF (leafF a.data.toList) (leafF b.data.toList)] ∧ pathE [a, b, c] 2 = 0 := by
  have hl : (tl [a, b, c]).length = 3 := rfl
  have h2 : (abv (tl [a, b, c])).length = 2 := by rw [abv_len, hl]
  refine ⟨?_, by unfold pathE; rw [if_pos (by simp)]⟩
  unfold pathF
  rw [if_pos (by simp), show (2 : Int).toNat = 2 from rfl, pth_more _ _ (by rw [hl]; decide), if_neg (by rw [hl]; decide), pth_more _ _ (by rw [h2]; decide), if_pos (by rw [h2]; decide), pth_one _ _ (by rw [abv_len, h2]; decide)]
  show [] ++ ([(abv (tl [a, b, c])).getD 0 []] ++ []) = _
  rw [abv_in _ 0 (by rw [hl]; decide)]; rfl
theorem path_none (i : Int) : pathF [] i = [] ∧ pathE [] i = 1 := by
  unfold pathF pathE
  rw [if_neg (by simp), if_neg (by simp)]; exact ⟨rfl, rfl⟩
theorem holds_leaf (x : List UInt8) : holdsF x 1 0 ⟨#[]⟩ [] = decide (leafF [] = x) := by
  unfold holdsF
  rw [if_pos (by decide), show (1 : Int).toNat = 1 from rfl, hl_one _ _ _ _ (by decide)]; rfl
theorem e0_ne : e0 ≠ e2 := by decide
theorem holds_yes : holdsF (leafF []) 1 0 ⟨#[]⟩ [] = true := by rw [holds_leaf, decide_eq_true rfl]
theorem holds_no : holdsF (rootF [⟨#[]⟩, ⟨#[0]⟩]) 1 0 ⟨#[]⟩ [] = false := by
  rw [holds_leaf, leaf_e, root_two, decide_eq_false e0_ne]
end Go.Proofs.Ythpnppfpmhlkaaa.Sha
