/- Chapter 3: plain laws of roots and paths. -/
import Derived.Test.YthpnppfpmhlkaaaMkJ
import Derived.KernelRfl
import Derived.Test.YthpnppfpmhlkaaaOpens
import Derived.Test.YthpnppfpmhlkaaaOpensU
import Derived.OpenShut
/- Chapter 3: what the law knows of hashes. -/
/- Chapter 3: arguments of 32 bytes, and rows of them. -/
namespace Go.Proofs.Ythpnppfpmhlkaaa.Sha
open Go.RowKit Go.Proofs.Ythpnppfpmhlkaaa.X
set_option linter.unusedVariables false
set_option linter.unusedSimpArgs false

theorem abv_in (rows : List (List UInt8)) (j : Nat) (h : 2 * j + 1 < rows.length) : (abv rows).getD j [] = nodeF (rows.getD (2 * j) []) (rows.getD (2 * j + 1) []) := by
  unfold abv
  rw [List.getD_eq_getElem?_getD, List.getElem?_append_left (by rw [prs_len]; omega)]
  unfold prs
  rw [List.getElem?_map, List.getElem?_range (by omega)]; rfl
theorem abv_odd (rows : List (List UInt8)) (j : Nat) (h : 2 * j + 1 = rows.length) : (abv rows).getD j [] = rows.getD (2 * j) [] := by
  unfold abv
  rw [List.getD_eq_getElem?_getD, List.getElem?_append_right (by rw [prs_len]; omega), prs_len, if_pos (by omega), show j - rows.length / 2 = 0 by omega, show rows.length - 1 = 2 * j by omega]; rfl
/-- A path leads up to the top. -/
theorem hl_path : ∀ (m : Nat) (rows : List (List UInt8)) (i : Nat) (ext : List (List UInt8)), rows.length ≤ m → i < rows.length → hl rows.length i (rows.getD i []) (pth rows i ++ ext) = some (up rows, ext)
  | 0, rows, i, ext, h, hi => by omega
  | m + 1, rows, i, ext, h, hi => by
    by_cases h1 : 1 < rows.length
    · rw [pth_more rows i h1, up_more rows h1]
      have e := abv_len rows
      by_cases hs : sib i < rows.length
      · rw [if_pos hs]
        show hl _ _ _ (rows.getD (sib i) [] :: (pth (abv rows) (i / 2) ++ ext)) = _
        rw [hl_more _ _ _ _ _ h1 hs, ← e, ← hl_path m (abv rows) (i / 2) ext (by omega) (by omega)]
        congr 1
        unfold sib at hs ⊢
        by_cases hp : i % 2 = 0
        · rw [if_pos hp] at hs ⊢
          rw [if_pos hp, abv_in rows (i / 2) (by omega), show 2 * (i / 2) = i by omega]
        · rw [if_neg hp] at hs ⊢
          rw [if_neg hp, abv_in rows (i / 2) (by omega), show 2 * (i / 2) = i - 1 by omega, show i - 1 + 1 = i by omega]
      · rw [if_neg hs]
        show hl _ _ _ (pth (abv rows) (i / 2) ++ ext) = _
        rw [hl_skip _ _ _ _ h1 hs, ← e, ← hl_path m (abv rows) (i / 2) ext (by omega) (by omega)]
        congr 1
        unfold sib at hs
        split at hs
        · rw [abv_odd rows (i / 2) (by omega), show 2 * (i / 2) = i by omega]
        · omega
    · rw [pth_one rows i h1, up_one rows h1, hl_one _ _ _ _ h1, show i = 0 by omega]; rfl
/-- A shorter one leads nowhere. -/
theorem hl_short : ∀ (m : Nat) (rows : List (List UInt8)) (i : Nat) (h : List UInt8) (hs : List (List UInt8)), rows.length ≤ m → hs.length < (pth rows i).length → hl rows.length i h hs = none
  | 0, rows, i, h, hs, hm, hl => by rw [pth_one rows i (by omega)] at hl; cases hl
  | m + 1, rows, i, h, hs, hm, hl => by
    by_cases h1 : 1 < rows.length
    · rw [pth_more rows i h1] at hl
      have e := abv_len rows
      by_cases s : sib i < rows.length
      · rw [if_pos s] at hl
        cases hs with
        | nil => exact hl_none _ _ _ h1 s
        | cons x r => 
          rw [hl_more _ _ _ _ _ h1 s, ← e]
          refine hl_short m (abv rows) (i / 2) _ r (by omega) ?_
          simp only [List.length_append, List.length_cons, List.length_nil] at hl
          omega
      · rw [if_neg s] at hl
        rw [hl_skip _ _ _ _ h1 s, ← e]
        exact hl_short m (abv rows) (i / 2) _ hs (by omega) (by simpa using hl)
    · rw [pth_one rows i h1] at hl; cases hl
/-- A path is short. -/
theorem pth_short : ∀ (k : Nat) (rows : List (List UInt8)) (i : Nat), rows.length ≤ 2 ^ k → (pth rows i).length ≤ k
  | 0, rows, i, h => by rw [pth_one rows i (by omega)]; exact Nat.zero_le _
  | k + 1, rows, i, h => by
    by_cases h1 : 1 < rows.length
    · have e := abv_len rows
      rw [Nat.pow_succ] at h
      have := pth_short k (abv rows) (i / 2) (by omega)
      rw [pth_more rows i h1, List.length_append]
      split <;> simp <;> omega
    · rw [pth_one rows i h1]; exact Nat.zero_le _
theorem tl_getD (xs : List ByteArray) (j : Nat) (hj : j < xs.length) : (tl xs).getD j [] = leafF (xs.getD j ByteArray.empty).data.toList := by
  unfold tl
  rw [List.getD_eq_getElem?_getD, List.getElem?_map, List.getElem?_eq_getElem hj, List.getD_eq_getElem?_getD, List.getElem?_eq_getElem hj]; rfl
theorem holds_path (xs : List ByteArray) (i : Nat) (hi : i < xs.length) : holdsF (rootF xs) xs.length i (xs.getD i ByteArray.empty) (pathF xs i) = true := by
  unfold holdsF rootF pathF
  rw [if_pos (by omega), if_neg (by omega), if_pos (by omega), ← tl_getD xs i hi, Int.toNat_natCast, Int.toNat_natCast]
  have h := hl_path xs.length (tl xs) i [] (by rw [tl_len]; exact Nat.le_refl _) (by rw [tl_len]; exact hi)
  rw [tl_len, List.append_nil] at h
  rw [h]; simp [told]
theorem holds_less (xs : List ByteArray) (i : Nat) (hi : i < xs.length) (root : List UInt8) (s : ByteArray) (p : List (List UInt8)) (hp : p.length < (pathF xs i).length) : holdsF root xs.length i s p = false := by
  unfold pathF at hp
  rw [if_pos (by omega), Int.toNat_natCast] at hp
  unfold holdsF
  rw [if_pos (by omega), Int.toNat_natCast, Int.toNat_natCast]
  have h := hl_short xs.length (tl xs) i (leafF s.data.toList) p (by rw [tl_len]; exact Nat.le_refl _) hp
  rw [tl_len] at h
  rw [h]; rfl
theorem holds_more (xs : List ByteArray) (i : Nat) (hi : i < xs.length) (root more : List UInt8) : holdsF root xs.length i (xs.getD i ByteArray.empty) (pathF xs i ++ [more]) = false := by
  unfold holdsF pathF
  rw [if_pos (by omega), if_pos (by omega), ← tl_getD xs i hi, Int.toNat_natCast, Int.toNat_natCast]
  have h := hl_path xs.length (tl xs) i [more] (by rw [tl_len]; exact Nat.le_refl _) (by rw [tl_len]; exact hi)
  rw [tl_len] at h
  rw [h]; rfl
theorem path_nine (xs : List ByteArray) (i : Int) (h : xs.length ≤ 300) : (pathF xs i).length ≤ 9 := by
  unfold pathF
  split
  · exact pth_short 9 _ _ (by rw [tl_len]; omega)
  · exact Nat.zero_le _
/-! ### the root of two parts -/
theorem getD_take (rows : List (List UInt8)) (k j : Nat) (h : j < k) : (rows.take k).getD j [] = rows.getD j [] := by
  rw [List.getD_eq_getElem?_getD, List.getElem?_take_of_lt h, List.getD_eq_getElem?_getD]
theorem getD_drop (rows : List (List UInt8)) (k j : Nat) : (rows.drop k).getD j [] = rows.getD (k + j) [] := by
  rw [List.getD_eq_getElem?_getD, List.getElem?_drop, List.getD_eq_getElem?_getD]
theorem ext_getD (a b : List (List UInt8)) (hl : a.length = b.length) (h : ∀ j, j < a.length → a.getD j [] = b.getD j []) : a = b := by
  refine List.ext_getElem hl fun i h1 h2 => ?_
  have := h i h1
  rw [List.getD_eq_getElem?_getD, List.getD_eq_getElem?_getD, List.getElem?_eq_getElem h1, List.getElem?_eq_getElem h2] at this
  exact this
theorem abv_at (rows : List (List UInt8)) (j : Nat) (h : j < (abv rows).length) : (abv rows).getD j [] = if 2 * j + 1 < rows.length then nodeF (rows.getD (2 * j) []) (rows.getD (2 * j + 1) []) else rows.getD (2 * j) [] := by
  rw [abv_len] at h
  split
  · rename_i h1; exact abv_in rows j h1
  · rename_i h1; exact abv_odd rows j (by omega)
theorem abv_take (rows : List (List UInt8)) (k : Nat) (h : 2 * k ≤ rows.length) : abv (rows.take (2 * k)) = (abv rows).take k := by
  have e := abv_len rows
  have e2 := abv_len (rows.take (2 * k))
  have e3 : (rows.take (2 * k)).length = 2 * k := by rw [List.length_take]; omega
  rw [e3] at e2
  refine ext_getD _ _ (by rw [e2, List.length_take]; omega) fun j hj => ?_
  rw [abv_at _ j hj, getD_take (abv rows) k j (by omega), abv_at rows j (by omega), e3, if_pos (by omega), if_pos (by omega), getD_take _ _ _ (by omega), getD_take _ _ _ (by omega)]
theorem abv_drop (rows : List (List UInt8)) (k : Nat) (h : 2 * k ≤ rows.length) : abv (rows.drop (2 * k)) = (abv rows).drop k := by
  have e := abv_len rows
  have e2 := abv_len (rows.drop (2 * k))
  have e3 : (rows.drop (2 * k)).length = rows.length - 2 * k := List.length_drop
  rw [e3] at e2
  refine ext_getD _ _ (by rw [e2, List.length_drop]; omega) fun j hj => ?_
  rw [abv_at _ j hj, getD_drop, getD_drop, getD_drop, abv_at rows (k + j) (by omega), e3, show 2 * (k + j) = 2 * k + 2 * j by omega, show 2 * k + 2 * j + 1 = 2 * k + (2 * j + 1) by omega]
  by_cases h1 : 2 * k + (2 * j + 1) < rows.length
  · rw [if_pos h1, if_pos (by omega)]
  · rw [if_neg h1, if_neg (by omega)]
theorem up_split : ∀ (d : Nat) (rows : List (List UInt8)), 2 ^ d < rows.length → rows.length ≤ 2 * 2 ^ d → up rows = nodeF (up (rows.take (2 ^ d))) (up (rows.drop (2 ^ d)))
  | 0, rows, h1, h2 => by
    have hl : rows.length = 2 := by omega
    have e := abv_len rows
    rw [up_more rows h1, up_one (abv rows) (by omega), abv_in rows 0 (by omega), up_one _ (by rw [List.length_take]; omega), up_one _ (by rw [List.length_drop]; omega), getD_take _ _ _ (by omega), getD_drop]
  | d + 1, rows, h1, h2 => by
    have e := abv_len rows
    rw [Nat.pow_succ, Nat.mul_comm] at h1 h2 ⊢
    have hp : 0 < 2 ^ d := Nat.two_pow_pos d
    have h3 : (rows.take (2 * 2 ^ d)).length = 2 * 2 ^ d := by rw [List.length_take]; omega
    have h4 : (rows.drop (2 * 2 ^ d)).length = rows.length - 2 * 2 ^ d := List.length_drop
    rw [up_more rows (by omega), up_split d (abv rows) (by omega) (by omega), up_more (rows.take (2 * 2 ^ d)) (by omega), abv_take rows _ (by omega), ← abv_drop rows _ (by omega)]
    congr 1
    by_cases h5 : 1 < (rows.drop (2 * 2 ^ d)).length
    · rw [up_more _ h5]
    · have e5 := abv_len (rows.drop (2 * 2 ^ d))
      rw [up_one _ h5, up_one _ (by omega), abv_odd _ 0 (by omega)]
theorem root_split (xs : List ByteArray) (d : Nat) (h1 : 2 ^ d < xs.length) (h2 : xs.length ≤ 2 * 2 ^ d) : rootF xs = nodeF (rootF (xs.take (2 ^ d))) (rootF (xs.drop (2 ^ d))) := by
  have hp : 0 < 2 ^ d := Nat.two_pow_pos d
  have e := up_split d (tl xs) (by rw [tl_len]; exact h1) (by rw [tl_len]; exact h2)
  unfold rootF
  rw [if_neg (by omega), if_neg (by rw [List.length_take]; omega), if_neg (by rw [List.length_drop]; omega), e]
  unfold tl
  rw [List.map_take, List.map_drop]
theorem root_one (s : ByteArray) : rootF [s] = leafF s.data.toList := by
  unfold rootF
  rw [if_neg (by simp), up_one _ (by rw [tl_len]; simp)]; rfl
theorem root_first (xs : List ByteArray) (h : xs.length = 1) : rootF xs = leafF (xs.getD 0 ByteArray.empty).data.toList := by
  match xs, h with
  | [s], _ => exact root_one s
theorem root_grown (xs : List ByteArray) (d : Nat) (h1 : 2 ^ d < xs.length) (s : ByteArray) : rootF (xs.take (2 ^ d) ++ [s]) = nodeF (rootF (xs.take (2 ^ d))) (leafF s.data.toList) := by
  have hp : 0 < 2 ^ d := Nat.two_pow_pos d
  have hl : (xs.take (2 ^ d)).length = 2 ^ d := by rw [List.length_take]; omega
  rw [root_split _ d (by rw [List.length_append, hl]; simp) (by rw [List.length_append, hl]; simp; omega), List.take_left' hl, List.drop_left' hl, root_one]
end Go.Proofs.Ythpnppfpmhlkaaa.Sha
namespace Go.Proofs.Ythpnppfpmhlkaaa.Sha
open Go.RowKit Go.Proofs.Ythpnppfpmhlkaaa.X
set_option linter.unusedVariables false
set_option linter.unusedSimpArgs false

theorem sumF_open (l : List UInt8) (n : Nat) (h : l.length = n) : sumF l = out8 (blk8 H0 (l ++ tailOf n (BitVec.ofNat 64 (8 * n)))).1 := by subst h; rfl
def e0 : List UInt8 := [110, 52, 11, 156, 255, 179, 122, 152, 156, 165, 68, 230, 187, 120, 10, 44, 120, 144, 29, 63, 179, 55, 56, 118, 133, 17, 163, 6, 23, 175, 160, 29]
def e1 : List UInt8 := [150, 162, 150, 210, 36, 242, 133, 198, 123, 238, 147, 195, 15, 138, 48, 145, 87, 240, 218, 163, 93, 197, 184, 126, 65, 11, 120, 99, 10, 9, 207, 199]
def e2 : List UInt8 := [250, 197, 66, 3, 231, 204, 105, 108, 240, 223, 203, 66, 201, 42, 29, 157, 186, 247, 10, 217, 230, 33, 244, 189, 141, 152, 102, 47, 0, 227, 193, 37]
def pad1 : List UInt8 := [0] ++ tailOf 1 (BitVec.ofNat 64 8)
theorem pad1_len : pad1.length = 64 := by kernel_rfl
set_option maxRecDepth 100000 in
theorem pad1_out : out8 (turn K0 H0 pad1) = e0 := by kernel_rfl
theorem leaf_e : leafF [] = e0 := by
  show sumF [0] = _
  rw [sumF_open [0] 1 rfl]
  show out8 (blk8 H0 pad1).1 = _
  rw [blk_one _ _ pad1_len]; exact pad1_out
def pad2 : List UInt8 := [0, 0] ++ tailOf 2 (BitVec.ofNat 64 16)
theorem pad2_len : pad2.length = 64 := by kernel_rfl
set_option maxRecDepth 100000 in
theorem pad2_out : out8 (turn K0 H0 pad2) = e1 := by kernel_rfl
theorem leaf_0 : leafF [0] = e1 := by
  show sumF [0, 0] = _
  rw [sumF_open [0, 0] 2 rfl]
  show out8 (blk8 H0 pad2).1 = _
  rw [blk_one _ _ pad2_len]; exact pad2_out
def pad3 : List UInt8 := (1 :: (e0 ++ e1)) ++ tailOf 65 (BitVec.ofNat 64 520)
theorem pad3_len : pad3.length = 128 := by kernel_rfl
set_option maxRecDepth 100000 in
theorem pad3_out : out8 (turn K0 (turn K0 H0 (pad3.take 64)) (pad3.drop 64)) = e2 := by kernel_rfl
theorem node_e : nodeF e0 e1 = e2 := by
  show sumF (1 :: (e0 ++ e1)) = _
  rw [sumF_open (1 :: (e0 ++ e1)) 65 rfl]
  show out8 (blk8 H0 pad3).1 = _
  rw [blk8_long H0 pad3 (by rw [pad3_len]; decide), blk_one _ _ (by rw [List.length_drop, pad3_len])]
  exact pad3_out
/-- The leaf of the empty text, and the root of two texts. -/
theorem root_two : rootF [⟨#[]⟩, ⟨#[0]⟩] = e2 := by
  unfold rootF
  rw [if_neg (by simp), up_more _ (by rw [tl_len]; decide), up_one _ (by rw [abv_len, tl_len]; decide), abv_in _ 0 (by rw [tl_len]; decide)]
  show nodeF (leafF []) (leafF [0]) = _
  rw [leaf_e, leaf_0, node_e]
theorem path_three (a b c : ByteArray) : pathF [a, b, c] 2 = [nodeF (leafF a.data.toList) (leafF b.data.toList)] ∧ pathE [a, b, c] 2 = 0 := by
  have hl : (tl [a, b, c]).length = 3 := rfl
  have h2 : (abv (tl [a, b, c])).length = 2 := by rw [abv_len, hl]
  refine ⟨?_, by unfold pathE; rw [if_pos (by simp)]⟩
  unfold pathF
  rw [if_pos (by simp), show (2 : Int).toNat = 2 from rfl, pth_more _ _ (by rw [hl]; decide), if_neg (by rw [hl]; decide), pth_more _ _ (by rw [h2]; decide), if_pos (by rw [h2]; decide), pth_one _ _ (by rw [abv_len, h2]; decide)]
  show [] ++ ([(abv (tl [a, b, c])).getD 0 []] ++ []) = _
  rw [abv_in _ 0 (by rw [hl]; decide)]; rfl
theorem path_none (i : Int) : pathF [] i = [] ∧ pathE [] i = 1 := by
  unfold pathF pathE
  rw [if_neg (by simp), if_neg (by simp)]; exact ⟨rfl, rfl⟩
theorem holds_leaf (x : List UInt8) : holdsF x 1 0 ⟨#[]⟩ [] = decide (leafF [] = x) := by
  unfold holdsF
  rw [if_pos (by decide), show (1 : Int).toNat = 1 from rfl, hl_one _ _ _ _ (by decide)]; rfl
theorem e0_ne : e0 ≠ e2 := by decide
theorem holds_yes : holdsF (leafF []) 1 0 ⟨#[]⟩ [] = true := by rw [holds_leaf, decide_eq_true rfl]
theorem holds_no : holdsF (rootF [⟨#[]⟩, ⟨#[0]⟩]) 1 0 ⟨#[]⟩ [] = false := by
  rw [holds_leaf, leaf_e, root_two, decide_eq_false e0_ne]
end Go.Proofs.Ythpnppfpmhlkaaa.Sha
namespace Go.Proofs.Ythpnppfpmhlkaaa.Sha
open Go.ChangeShapes Go.WideShapes Go.ChangeAt Go.RowKit Go.Proofs.Ythpnppfpmhlkaaa.X Go.Proofs.YthpnppfpmhlkaaaW.PrintWords Go.Proofs.Ythpnppfpmhlkaaa.OpensU
set_option linter.unusedVariables false
set_option linter.unusedSimpArgs false

theorem cells_b32 {H : Type} {enc : TypeId × Value → H} {w : World} {fuel : Nat} {cs : List Value} {y : DataW H × List MemPlace} (h : DataW.trod enc Try.prog w 0 (fun _ => true) true fuel 23 cs = some y) :
    ∃ l : List UInt8, l.length = 32 ∧ cs = bc l := by
  have hc23 : Try.prog.cellsOf 23 = 32 := by kernel_rfl
  have hc5 : Try.prog.cellsOf 5 = 1 := by kernel_rfl
  obtain ⟨xs, m, rfl, hx, hl, hxl, hat⟩ := DataW.trod_array Try.underlying23 h
  rw [hc23] at hl
  have hone : ∀ j, j < 32 → ∃ c : UInt8, cs[j]? = some (.int .u8 c.toNat) := by
    intro j hj
    have h1 := hat j hj
    rw [hc5, Nat.mul_one, List.getElem?_eq_getElem (by omega)] at h1
    obtain ⟨n, h2, _, h3⟩ := DataW.trod_int Try.underlying5 h1
    have hb := bounds_u8 h3
    refine ⟨UInt8.ofNat n.toNat, ?_⟩
    have h4 : (cs.drop j)[0]? = some (.int .u8 n) := by
      have := congrArg (fun l => l[0]?) h2
      simpa [List.getElem?_take] using this
    rw [List.getElem?_drop, Nat.add_zero] at h4
    rw [h4]
    congr 2
    rw [UInt8.toNat_ofNat_of_lt' (by show _ < 256; omega)]
    omega
  obtain ⟨l, hll, hlc⟩ := Opens.choose_list (fun j (c : UInt8) => cs[j]? = some (.int .u8 c.toNat)) 32 hone
  refine ⟨l, hll, List.ext_getElem? fun j => ?_⟩
  by_cases hj : j < 32
  · have hc := List.getElem?_eq_getElem (show j < l.length by omega)
    rw [hlc j _ hc]
    unfold bc
    rw [List.getElem?_map, hc]; rfl
  · rw [List.getElem?_eq_none (by omega), List.getElem?_eq_none (by rw [bc_len]; omega)]
/-- Hashes as cells. -/
def kH : Kd (List UInt8) where
  sz := 32
  E := []
  K := fun _ x cs => x.length = 32 ∧ cs = bc x
  M := fun _ _ _ x cs => x.length = 32 ∧ cs = bc x
  K_len := fun ⟨h, e⟩ => by rw [e, bc_len, h]
  K_one := fun ⟨h, e⟩ => by rw [e]; exact bc_one _
  K_below := fun _ h => h
  K_of_M := fun h => h
  M_mono := fun _ h => h
  M_bound := fun h => h
  M_move := fun _ h => h
  M_lower := fun _ h => h
theorem opu_b32 : OpU Try.prog 23 kH (fun x => x.length = 32) := by
  intro H enc w fuel cs y h _
  obtain ⟨l, hl, rfl⟩ := cells_b32 h
  exact ⟨l, ⟨hl, rfl⟩, hl⟩
theorem hread_of {W : World} {A : Option Addr} {xs : List (List UInt8)} (h : Kd.C kH W A xs.length xs) (h32 : ∀ x ∈ xs, x.length = 32) : HRead A xs W := by
  refine ⟨h32, fun h0 => ?_⟩
  obtain ⟨_, _, h1⟩ := h
  obtain ⟨ad, rfl, h2⟩ := h1 h0
  refine ⟨ad, rfl, fun j i hj hi => ?_⟩
  obtain ⟨c, hc, ⟨_, rfl⟩, h3⟩ := h2 j (xs.getD j []) (by rw [List.getD_eq_getElem?_getD, List.getElem?_eq_getElem hj]; rfl)
  have hxl : (xs.getD j []).length = 32 := by
    rw [List.getD_eq_getElem?_getD, List.getElem?_eq_getElem hj]; exact h32 _ (List.getElem_mem _)
  refine h3 i _ ?_
  generalize xs.getD j [] = y at hxl ⊢
  unfold bc
  rw [List.getElem?_map, List.getElem?_eq_getElem (by omega), List.getD_eq_getElem?_getD, List.getElem?_eq_getElem (by omega)]; rfl
/-- An argument of 32 bytes. -/
theorem arg_b32 {H : Type} {enc : TypeId × Value → H} {w : World} {base : Nat} {v : Value} {d : DataW H} {p : List MemPlace} (hv : Value.okWide Try.prog w .any base 23 v) (h : DataW.Trod enc Try.prog w 0 (fun _ => true) true 23 v d p) :
    ∃ l : List UInt8, l.length = 32 ∧ v = .agg (brw 32 l) := by
  unfold Value.okWide at hv
  rw [Try.underlying23] at hv
  obtain ⟨cs, rfl, hsz, _⟩ := hv
  obtain ⟨fuel, hf⟩ := h
  obtain ⟨l, hl, e⟩ := cells_b32 hf
  refine ⟨l, hl, ?_⟩
  have e2 : cs.toList = bc l := e
  rw [← Array.toArray_toList (xs := cs), e2, brw_full 32 l hl]; rfl
end Go.Proofs.Ythpnppfpmhlkaaa.Sha
