/- VersionApart: the pairs that Read tells are the caller's own: marked and grown, what was told beside them and what is told then stay as they were. No condition beside the row's own. -/
import Derived.Test.YtdhkcklgnnilfaaVerSame
import Derived.Test.YtdhkcklgnnilfaaStVersionApart
namespace Go.Proofs.Ytdhkcklgnnilfaa.Pure
set_option linter.unusedVariables false
set_option linter.unusedSimpArgs false
open Go.RowKit Go.Proofs.Ytdhkcklgnnilfaa.X Go.Proofs.Ytdhkcklgnnilfaa.Link Go.Proofs.YtdhkcklgnnilfaaW.PrintWords Go.Proofs.YtdhkcklgnnilfaaW.PrintLast

theorem first_true : cofferlaw13_first.f 40 = some true := by decide +kernel
theorem first_any (k : Nat) (hk : 40 ≤ k) : cofferlaw13_first.f k = some true := at_rounds (fun k => cofferlaw13_first.mono k) hk first_true
theorem bind_of {α β : Type} {x : Option α} {f : α → Option β} {v : α} {r : Option β} (h : x = some v) (h2 : f v = r) : x.bind f = r := by rw [h]; exact h2
/-- The pairs up to a number bear the mark. -/
def Marked (c : UInt8) (xs : List S31) (i : Nat) : Prop := ∀ j (h : j < xs.length), j < i → xs[j].f0.toList = [c]
def MX : S31 := ⟨(⟨#[120]⟩ : ByteArray), (⟨#[]⟩ : ByteArray)⟩
def MZ : S31 := ⟨(⟨#[122]⟩ : ByteArray), (⟨#[]⟩ : ByteArray)⟩
theorem mx_list : MX.f0.toList = [120] := by rw [toList_data]; rfl
theorem mz_list : MZ.f0.toList = [122] := by rw [toList_data]; rfl
theorem marked_set {c : UInt8} {xs : List S31} {i : Nat} (h : Marked c xs i) (v : S31) (hv : v.f0.toList = [c]) : Marked c (xs.set i v) (i + 1) := by
  intro j hj hi
  rw [List.getElem_set]
  by_cases e : i = j
  · rw [if_pos e]; exact hv
  · rw [if_neg e]
    rw [List.length_set] at hj
    exact h j hj (by omega)
theorem marked_app {c : UInt8} {xs : List S31} {i : Nat} (h : Marked c xs xs.length) (v : S31) (hv : v.f0.toList = [c]) : Marked c (xs ++ [v]) (xs ++ [v]).length := by
  intro j hj hi
  rw [List.getElem_append]
  by_cases e : j < xs.length
  · rw [dif_pos e]; exact h j e e
  · rw [dif_neg e]
    have : j - xs.length = 0 := by rw [List.length_append] at hj; simp at hj; omega
    simp [this, hv]
section
variable (a : ByteArray) (q : Int) (m : Bool) (d : ByteArray) (l : List S31) (a' : ByteArray) (q' : Int) (m' : Bool) (d' : ByteArray) (l' : List S31) (he : errV a q m d l = 0) (he' : errV a' q' m' d' l' = 0)
include he he'
theorem l4_true (xs zs : List S31) (hx : xs.length = l.length + 10) (hz : zs.length = l'.length + 10) (mz : Marked 122 zs zs.length) (j : Nat) : ∀ (k i : Nat), i + j = zs.length → j + 700 < k →
    cofferlaw13_VersionApart.l4 k (strOfNums (encV a q m d l)) (i : Int) a q m d l a' q' m' d' l' a q m d xs a q m d l a' q' m' d' zs = some true := by
  have hl := (metaOk_sizes (errV_zero he).2.2.2.2.2.1).1
  have hl' := (metaOk_sizes (errV_zero he').2.2.2.2.2.1).1
  induction j with
  | zero =>
    intro k i h hk
    obtain ⟨k, rfl⟩ : ∃ q, k = q + 1 := ⟨k - 1, by omega⟩
    have hw : wrap64 ((l.length : Int) + 10) = (xs.length : Int) := by unfold wrap64; omega
    have hw' : wrap64 ((l'.length : Int) + 10) = (zs.length : Int) := by unfold wrap64; omega
    rw [cofferlaw13_VersionApart.l4]
    rw [if_neg (by omega)]
    refine bind_of (read_back a q m d l he k (by omega)) ?_
    refine bind_of (same_self a q m d l (by omega) k (by omega)) ?_
    refine (if_pos rfl).trans ?_
    refine bind_of (same_self a q m d l (by omega) k (by omega)) ?_
    refine (if_pos rfl).trans ?_
    refine (if_pos hw.symm).trans ?_
    rw [hw']
    simp
  | succ j ih =>
    intro k i h hk
    obtain ⟨k, rfl⟩ : ∃ q, k = q + 1 := ⟨k - 1, by omega⟩
    have hw : wrap64 ((i : Int) + 1) = ((i + 1 : Nat) : Int) := by unfold wrap64; omega
    rw [cofferlaw13_VersionApart.l4]
    rw [if_pos (by omega), if_pos (by omega), rd_at zs i (by omega), if_pos (mz i (by omega) (by omega)), hw]
    exact ih k (i + 1) (by omega) (by omega)
theorem l3_true (xs zs : List S31) (hx : xs.length = l.length + 10) (hz : zs.length = l'.length + 10) (mx : Marked 120 xs xs.length) (mz : Marked 122 zs zs.length) (j : Nat) : ∀ (k i : Nat), i + j = xs.length → j + 800 < k →
    cofferlaw13_VersionApart.l3 k (strOfNums (encV a q m d l)) (i : Int) a q m d l a' q' m' d' l' a q m d xs a q m d l a' q' m' d' zs = some true := by
  have hl := (metaOk_sizes (errV_zero he).2.2.2.2.2.1).1
  have hl' := (metaOk_sizes (errV_zero he').2.2.2.2.2.1).1
  induction j with
  | zero =>
    intro k i h hk
    obtain ⟨k, rfl⟩ : ∃ q, k = q + 1 := ⟨k - 1, by omega⟩
    rw [cofferlaw13_VersionApart.l3]
    rw [if_neg (by omega)]
    exact l4_true a q m d l a' q' m' d' l' he he' xs zs hx hz mz zs.length k 0 (by omega) (by omega)
  | succ j ih =>
    intro k i h hk
    obtain ⟨k, rfl⟩ : ∃ q, k = q + 1 := ⟨k - 1, by omega⟩
    have hw : wrap64 ((i : Int) + 1) = ((i + 1 : Nat) : Int) := by unfold wrap64; omega
    rw [cofferlaw13_VersionApart.l3]
    rw [if_pos (by omega), if_pos (by omega), rd_at xs i (by omega), if_pos (mx i (by omega) (by omega)), hw]
    exact ih k (i + 1) (by omega) (by omega)
theorem l2_true (j : Nat) : ∀ (k i : Nat) (xs zs : List S31), i + j = 10 → j + 900 < k → xs.length = l.length + i → zs.length = l'.length + i → Marked 120 xs xs.length → Marked 122 zs zs.length →
    cofferlaw13_VersionApart.l2 k (strOfNums (encV a q m d l)) (i : Int) a q m d l a' q' m' d' l' a q m d xs a q m d l a' q' m' d' zs = some true := by
  have hl := (metaOk_sizes (errV_zero he).2.2.2.2.2.1).1
  have hl' := (metaOk_sizes (errV_zero he').2.2.2.2.2.1).1
  induction j with
  | zero =>
    intro k i xs zs h hk hx hz mx mz
    obtain ⟨k, rfl⟩ : ∃ q, k = q + 1 := ⟨k - 1, by omega⟩
    rw [cofferlaw13_VersionApart.l2]
    rw [if_neg (by omega)]
    exact l3_true a q m d l a' q' m' d' l' he he' xs zs (by omega) (by omega) mx mz xs.length k 0 (by omega) (by omega)
  | succ j ih =>
    intro k i xs zs h hk hx hz mx mz
    obtain ⟨k, rfl⟩ : ∃ q, k = q + 1 := ⟨k - 1, by omega⟩
    have hw : wrap64 ((i : Int) + 1) = ((i + 1 : Nat) : Int) := by unfold wrap64; omega
    rw [cofferlaw13_VersionApart.l2]
    rw [if_pos (by omega), if_pos (by omega), if_pos (by omega), hw]
    exact ih k (i + 1) (xs ++ [MX]) (zs ++ [MZ]) (by omega) (by omega) (by simp; omega) (by simp; omega) (marked_app (i := 0) mx MX mx_list) (marked_app (i := 0) mz MZ mz_list)
theorem l1_true (xs : List S31) (hx : xs.length = l.length) (mx : Marked 120 xs xs.length) (j : Nat) : ∀ (k i : Nat) (zs : List S31), i + j = zs.length → j + 1000 < k → zs.length = l'.length → Marked 122 zs i →
    cofferlaw13_VersionApart.l1 k (strOfNums (encV a q m d l)) (i : Int) a q m d l a' q' m' d' l' a q m d xs a q m d l a' q' m' d' zs = some true := by
  have hl := (metaOk_sizes (errV_zero he).2.2.2.2.2.1).1
  have hl' := (metaOk_sizes (errV_zero he').2.2.2.2.2.1).1
  induction j with
  | zero =>
    intro k i zs h hk hz mz
    obtain ⟨k, rfl⟩ : ∃ q, k = q + 1 := ⟨k - 1, by omega⟩
    rw [cofferlaw13_VersionApart.l1]
    rw [if_neg (by omega)]
    exact l2_true a q m d l a' q' m' d' l' he he' 10 k 0 xs zs (by omega) (by omega) (by omega) (by omega) mx (by rw [← h]; exact mz)
  | succ j ih =>
    intro k i zs h hk hz mz
    obtain ⟨k, rfl⟩ : ∃ q, k = q + 1 := ⟨k - 1, by omega⟩
    have hw : wrap64 ((i : Int) + 1) = ((i + 1 : Nat) : Int) := by unfold wrap64; omega
    rw [cofferlaw13_VersionApart.l1]
    rw [if_pos (by omega), if_pos (by omega), hw, Int.toNat_natCast]
    exact ih k (i + 1) (zs.set i MZ) (by rw [List.length_set]; omega) (by omega) (by rw [List.length_set]; omega) (marked_set mz MZ mz_list)
theorem l0_true (j : Nat) : ∀ (k i : Nat) (xs : List S31), i + j = xs.length → j + 1100 < k → xs.length = l.length → Marked 120 xs i →
    cofferlaw13_VersionApart.l0 k (strOfNums (encV a q m d l)) (i : Int) a q m d l a' q' m' d' l' a q m d xs a q m d l a' q' m' d' l' = some true := by
  have hl := (metaOk_sizes (errV_zero he).2.2.2.2.2.1).1
  have hl' := (metaOk_sizes (errV_zero he').2.2.2.2.2.1).1
  induction j with
  | zero =>
    intro k i xs h hk hx mx
    obtain ⟨k, rfl⟩ : ∃ q, k = q + 1 := ⟨k - 1, by omega⟩
    rw [cofferlaw13_VersionApart.l0]
    rw [if_neg (by omega)]
    exact l1_true a q m d l a' q' m' d' l' he he' xs hx (by rw [← h]; exact mx) l'.length k 0 l' (by omega) (by omega) rfl (fun j _ h => absurd h (by omega))
  | succ j ih =>
    intro k i xs h hk hx mx
    obtain ⟨k, rfl⟩ : ∃ q, k = q + 1 := ⟨k - 1, by omega⟩
    have hw : wrap64 ((i : Int) + 1) = ((i + 1 : Nat) : Int) := by unfold wrap64; omega
    rw [cofferlaw13_VersionApart.l0]
    rw [if_pos (by omega), if_pos (by omega), hw, Int.toNat_natCast]
    exact ih k (i + 1) (xs.set i MX) (by rw [List.length_set]; omega) (by omega) (by rw [List.length_set]; omega) (marked_set mx MX mx_list)
theorem j0_true (k : Nat) (hk : 2000 ≤ k) : cofferlaw13_VersionApart.j0 k (strOfNums (encV a q m d l)) (strOfNums (encV a' q' m' d' l')) false a q m d l a' q' m' d' l' = some true := by
  have hl := (metaOk_sizes (errV_zero he).2.2.2.2.2.1).1
  have hl' := (metaOk_sizes (errV_zero he').2.2.2.2.2.1).1
  obtain ⟨k, rfl⟩ : ∃ q, k = q + 2 := ⟨k - 2, by omega⟩
  rw [cofferlaw13_VersionApart.j0]
  rw [if_neg (by decide)]
  refine bind_of (read_back a q m d l he (k + 1) (by omega)) ?_
  refine bind_of (read_back a q m d l he (k + 1) (by omega)) ?_
  refine bind_of (read_back a' q' m' d' l' he' (k + 1) (by omega)) ?_
  refine bind_of (same_self a q m d l (by omega) (k + 1) (by omega)) ?_
  refine (if_pos rfl).trans ?_
  refine bind_of (same_self a q m d l (by omega) (k + 1) (by omega)) ?_
  refine (if_pos rfl).trans ?_
  refine bind_of (same_self a' q' m' d' l' (by omega) (k + 1) (by omega)) ?_
  show cofferlaw13_VersionApart.j1 (k + 1) _ false _ _ _ _ _ _ _ _ _ _ _ _ _ _ _ _ _ _ _ _ _ _ _ _ _ = _
  rw [cofferlaw13_VersionApart.j1, if_neg (by decide)]
  exact l0_true a q m d l a' q' m' d' l' he he' l.length k 0 l (by omega) (by omega) rfl (fun j _ h => absurd h (by omega))
end
theorem VersionApart : cofferlaw13_VersionApart.Pure := by
  intro x y hx hy
  have lx := hx.2.2.2.2.1
  have ly := hy.2.2.2.2.1
  refine ⟨x.f4.length + y.f4.length + 3000, ?_⟩
  generalize hk : x.f4.length + y.f4.length + 3000 = k
  have ht : ∀ u v : ByteArray, cofferlaw13_VersionApart.j0 k u v true x.f0 x.f1 x.f2 x.f3 x.f4 y.f0 y.f1 y.f2 y.f3 y.f4 = some true := by
    intro u v
    obtain ⟨k, rfl⟩ : ∃ q, k = q + 1 := ⟨k - 1, by omega⟩
    rw [cofferlaw13_VersionApart.j0, if_pos rfl]
  unfold cofferlaw13_VersionApart.f
  rw [write_eq x.f0 x.f1 x.f2 x.f3 x.f4 (by omega) k (by omega), write_eq y.f0 y.f1 y.f2 y.f3 y.f4 (by omega) k (by omega), first_any k (by omega)]
  simp only [Option.bind_some]
  rw [if_pos trivial]
  by_cases h1 : errV x.f0 x.f1 x.f2 x.f3 x.f4 = 0
  · rw [if_pos h1]
    simp only
    rw [if_pos trivial]
    by_cases h2 : errV y.f0 y.f1 y.f2 y.f3 y.f4 = 0
    · rw [if_pos h2]
      exact j0_true x.f0 x.f1 x.f2 x.f3 x.f4 y.f0 y.f1 y.f2 y.f3 y.f4 h1 h2 k (by omega)
    · rw [if_neg h2]
      simp only
      rw [show (errV y.f0 y.f1 y.f2 y.f3 y.f4 != 0) = true by simp [h2]]
      exact ht _ _
  · rw [if_neg h1]
    simp only
    rw [if_neg h1]
    exact ht _ _
end Go.Proofs.Ytdhkcklgnnilfaa.Pure
