/- What is lent; what stays; the document's Same of a version and of a list with itself. -/
import Derived.Test.YtmgiolijjheodaaStackMath
import Derived.Test.YtmgiolijjheodaaX17
import Derived.Test.YtmgiolijjheodaaX22
import Derived.Test.YtmgiolijjheodaaX23
import Derived.Test.YtmgiolijjheodaaX24
import Derived.Test.YtmgiolijjheodaaStaysS
namespace Go.Proofs.Ytmgiolijjheodaa.Link
set_option linter.unusedVariables false
set_option linter.unusedSimpArgs false
open Go.RowKit Go.Proofs.Ytmgiolijjheodaa.X Go.Proofs.YtmgiolijjheodaaW.PrintWords Go.Proofs.YtmgiolijjheodaaW.PrintLast

theorem rown_eq (x : S25) (h : x.f4.length < 4398046511104) : cofferref14_Own.f x.f0 x.f1 x.f2 x.f3 x.f4 = some (x.f0, x.f1, x.f2, x.f3, x.f4) := by
  unfold cofferref14_Own.f
  rw [if_pos (by simpa using h)]; rfl
theorem same_l0 (x : S25) (hl : x.f4.length ≤ 140737488351232) (d : Nat) : ∀ (k i : Nat), i + d = x.f4.length → d < k → cofferref14_Same.l0 k (i : Int) x.f0 x.f1 x.f2 x.f3 x.f4 x.f0 x.f1 x.f2 x.f3 x.f4 = some true := by
  induction d with
  | zero =>
    intro k i h hk
    obtain ⟨k, rfl⟩ : ∃ q, k = q + 1 := ⟨k - 1, by omega⟩
    rw [cofferref14_Same.l0, if_neg (by omega)]
  | succ d ih =>
    intro k i h hk
    obtain ⟨k, rfl⟩ : ∃ q, k = q + 1 := ⟨k - 1, by omega⟩
    have hw : wrap64 ((i : Int) + 1) = ((i + 1 : Nat) : Int) := by unfold wrap64; omega
    rw [cofferref14_Same.l0, if_pos (by omega), if_pos (by omega), if_pos (by omega), if_neg (by simp), hw]
    exact ih k (i + 1) (by omega) (by omega)
theorem same_self (x : S25) (hl : x.f4.length ≤ 140737488351232) (k : Nat) (hk : x.f4.length + 2 < k) : cofferref14_Same.f k x.f0 x.f1 x.f2 x.f3 x.f4 x.f0 x.f1 x.f2 x.f3 x.f4 = some true := by
  obtain ⟨k, rfl⟩ : ∃ q, k = q + 1 := ⟨k - 1, by omega⟩
  have hj : cofferref14_Same.j0 (k + 1) ((x.f4.length : Int) != (x.f4.length : Int)) x.f0 x.f1 x.f2 x.f3 x.f4 x.f0 x.f1 x.f2 x.f3 x.f4 = some true := by
    rw [cofferref14_Same.j0, if_neg (by simp)]
    exact same_l0 x hl x.f4.length k 0 (by omega) (by omega)
  unfold cofferref14_Same.f
  rw [if_pos rfl, if_pos rfl]
  by_cases hm : x.f2 = true
  · rw [if_pos hm, if_pos hm, if_pos rfl]; exact hj
  · rw [if_neg hm, if_neg hm, if_pos rfl]; exact hj
theorem sameList_l0 (l : List S25) (hl : l.length ≤ 1954687338267) (hk : okL l) (d : Nat) : ∀ (k i : Nat), i + d = l.length → d + 4398046511110 < k → cofferref14_SameList.l0 k l l (i : Int) = some true := by
  induction d with
  | zero =>
    intro k i h hk'
    obtain ⟨k, rfl⟩ : ∃ q, k = q + 1 := ⟨k - 1, by omega⟩
    rw [cofferref14_SameList.l0, if_neg (by omega)]
  | succ d ih =>
    intro k i h hk'
    obtain ⟨k, rfl⟩ : ∃ q, k = q + 1 := ⟨k - 1, by omega⟩
    have hlt : i < l.length := by omega
    have hw : wrap64 ((i : Int) + 1) = ((i + 1 : Nat) : Int) := by unfold wrap64; omega
    have ho := hk _ (List.getElem_mem hlt)
    rw [cofferref14_SameList.l0, if_pos (by omega), if_pos (by omega), if_pos (by omega), rd_at l i hlt, hw]
    refine bind_of (same_self l[i] (by omega) k (by omega)) ?_
    rw [if_pos rfl]
    exact ih k (i + 1) (by omega) (by omega)
theorem sameList_self (l : List S25) (hl : l.length ≤ 1954687338267) (hk : okL l) (k : Nat) (hk' : l.length + 4398046511110 < k) : cofferref14_SameList.f k l l = some true := by
  unfold cofferref14_SameList.f
  rw [if_pos rfl]
  exact sameList_l0 l hl hk l.length k 0 (by omega) (by omega)
theorem lentPairs_f (l : List S49) (h : l.length < 4398046511103) : cofferlaw14_lentPairs.f l = some (l ++ [MARKP]) := by
  unfold cofferlaw14_lentPairs.f
  simp only [Option.bind_some, List.nil_append]
  rw [if_pos (by simp; omega), if_pos (by omega)]; rfl
theorem lent_l0 (l : List S25) (hl : l.length ≤ 1954687338211) (ho : ∀ x ∈ l, x.f4.length < 4398046511103) (d : Nat) : ∀ (k i : Nat), i + d = l.length → d < k → cofferlaw14_lent.l0 k l (l.take i) (i : Int) = some (l ++ [mk1, mk2]) := by
  induction d with
  | zero =>
    intro k i h hk'
    obtain ⟨k, rfl⟩ : ∃ q, k = q + 1 := ⟨k - 1, by omega⟩
    rw [cofferlaw14_lent.l0, if_neg (by omega), List.take_of_length_le (by omega)]
    simp only [Option.bind_some]
    rw [if_pos (by simp; omega)]; rfl
  | succ d ih =>
    intro k i h hk'
    obtain ⟨k, rfl⟩ : ∃ q, k = q + 1 := ⟨k - 1, by omega⟩
    have hlt : i < l.length := by omega
    have hw : wrap64 ((i : Int) + 1) = ((i + 1 : Nat) : Int) := by unfold wrap64; omega
    rw [cofferlaw14_lent.l0, if_pos (by omega), if_pos (by omega), rd_at l i hlt, hw]
    refine bind_of (lentPairs_f _ (ho _ (List.getElem_mem hlt))) ?_
    rw [if_pos (by omega), if_pos (by simp; omega), if_pos (by simp; omega)]
    refine Eq.trans ?_ (ih k (i + 1) (by omega) (by omega))
    rw [List.take_succ_eq_append_getElem hlt, Int.toNat_natCast, List.take_left]
theorem lent_f (l : List S25) (hl : l.length ≤ 1954687338211) (ho : ∀ x ∈ l, x.f4.length < 4398046511103) (k : Nat) (hk : l.length < k) : cofferlaw14_lent.f k l = some (l ++ [mk1, mk2]) := by
  unfold cofferlaw14_lent.f
  exact lent_l0 l hl ho l.length k 0 (by omega) hk
theorem stays_l0 (l : List S25) (hl : l.length ≤ 1954687338211) (ho : ∀ x ∈ l, x.f4.length < 4398046511103) (d : Nat) : ∀ (k i : Nat), i + d = l.length → d < k → cofferlaw14_staysS.l0 k (lentL l) l (l.length : Int) (i : Int) = some true := by
  have hL : (lentL l).length = l.length + 2 := by simp [lentL]
  induction d with
  | zero =>
    intro k i h hk'
    obtain ⟨k, rfl⟩ : ∃ q, k = q + 1 := ⟨k - 1, by omega⟩
    rw [cofferlaw14_staysS.l0, if_neg (by omega)]
  | succ d ih =>
    intro k i h hk'
    obtain ⟨k, rfl⟩ : ∃ q, k = q + 1 := ⟨k - 1, by omega⟩
    have hlt : i < l.length := by omega
    have hw : wrap64 ((i : Int) + 1) = ((i + 1 : Nat) : Int) := by unfold wrap64; omega
    have hp := ho _ (List.getElem_mem hlt)
    have hw2 : wrap64 ((l[i].f4.length : Int) + 1) = ((l[i].f4.length + 1 : Nat) : Int) := by unfold wrap64; omega
    have hx : rd_T25 (lentL l) (i : Int) = ext l[i] := by rw [rd_at _ _ (by omega)]; simp [lentL, hlt]
    have hxl : (ext l[i]).f4 = l[i].f4 ++ [MARKP] := rfl
    have hr : rd_T49 (l[i].f4 ++ [MARKP]) (l[i].f4.length : Int) = MARKP := by rw [rd49_at _ _ (by simp)]; simp
    rw [cofferlaw14_staysS.l0, if_pos (by omega), if_pos (by omega), if_pos (by omega), if_pos (by omega), hx, rd_at l i hlt, hw, hw2, hxl]
    rw [if_pos (by omega), if_pos (by simp)]
    refine bind_of (v := l[i].f4 ++ [MARKP]) (by rw [Int.toNat_natCast, List.take_of_length_le (by simp)]) ?_
    rw [if_pos (by omega), if_pos (by rw [List.length_append]; simp only [List.length_singleton]; omega), hr, if_pos (show MARKP.f0 = (⟨#[109, 97, 114, 107]⟩ : ByteArray) from rfl), if_pos (show MARKP.f1 = (⟨#[]⟩ : ByteArray) from rfl)]
    exact ih k (i + 1) (by omega) (by omega)
theorem stays_f (l : List S25) (hl : l.length ≤ 1954687338211) (ho : ∀ x ∈ l, x.f4.length < 4398046511103) (k : Nat) (hk : l.length + 4398046511110 < k) : cofferlaw14_staysS.f k (l ++ [mk1, mk2]) (lentL l) l = some true := by
  obtain ⟨k, rfl⟩ : ∃ q, k = q + 1 := ⟨k - 1, by omega⟩
  have hL : (l ++ [mk1, mk2]).length = l.length + 2 := by simp
  have hw : wrap64 ((l.length : Int) + 2) = ((l.length + 2 : Nat) : Int) := by unfold wrap64; omega
  have hw1 : wrap64 ((l.length : Int) + 1) = ((l.length + 1 : Nat) : Int) := by unfold wrap64; omega
  have h1 : rd_T25 (l ++ [mk1, mk2]) (l.length : Int) = mk1 := by rw [rd_at _ _ (by omega)]; simp
  have h2 : rd_T25 (l ++ [mk1, mk2]) ((l.length + 1 : Nat) : Int) = mk2 := by rw [rd_at _ _ (by omega)]; simp
  unfold cofferlaw14_staysS.f
  rw [hL, hw, if_pos rfl, if_pos (by omega), if_pos (by omega), h1, if_pos (show mk1.f1 = (-77) from rfl), if_pos (show mk1.f0.toList = ([109, 97, 114, 107] : List UInt8) by decide +kernel), hw1, if_pos (by omega), if_pos (by omega), h2, if_pos (show mk2.f3.toList = ([109, 97, 114, 107] : List UInt8) by decide +kernel), if_pos (by omega), Int.toNat_natCast, List.take_left]
  refine bind_of (sameList_self l (by omega) (fun x hx => by have := ho x hx; omega) (k + 1) (by omega)) ?_
  rw [cofferlaw14_staysS.j0, if_neg (by decide)]
  exact stays_l0 l hl ho l.length k 0 (by omega) (by omega)
end Go.Proofs.Ytmgiolijjheodaa.Link
