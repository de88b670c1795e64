/- What the functions of a stack come to, on lists. -/
import Derived.Test.YtmgiolijjheodaaX5
import Derived.Test.YtmgiolijjheodaaX6
import Derived.Test.YtmgiolijjheodaaPlace
import Derived.Test.YtmgiolijjheodaaRemove
import Derived.Test.YtmgiolijjheodaaRowsFn
namespace Go.Proofs.Ytmgiolijjheodaa.Link
set_option linter.unusedVariables false
set_option linter.unusedSimpArgs false
open Go.RowKit Go.Proofs.Ytmgiolijjheodaa.X Go.Proofs.YtmgiolijjheodaaW.PrintWords Go.Proofs.YtmgiolijjheodaaW.PrintLast

theorem bind_of {α β : Type} {x : Option α} {f : α → Option β} {v : α} {r : Option β} (h : x = some v) (h2 : f v = r) : x.bind f = r := by rw [h]; exact h2
theorem toList_data (s : ByteArray) : s.toList = s.data.toList := Go.ByteArray.toList_eq s
theorem toList_inj {a b : ByteArray} (h : a.toList = b.toList) : a = b := by
  rw [toList_data, toList_data] at h
  cases a; cases b
  simp only [ByteArray.mk.injEq]
  exact Array.toList_inj.1 h
theorem rd_at (l : List S25) (i : Nat) (h : i < l.length) : rd_T25 l (i : Int) = l[i] := by
  unfold rd_T25
  rw [Int.toNat_natCast, List.getD_eq_getElem?_getD, List.getElem?_eq_getElem h]; rfl
theorem rd49_at (l : List S49) (i : Nat) (h : i < l.length) : rd_T49 l (i : Int) = l[i] := by
  unfold rd_T49
  rw [Int.toNat_natCast, List.getD_eq_getElem?_getD, List.getElem?_eq_getElem h]; rfl
theorem rd43_at (l : List S43) (i : Nat) (h : i < l.length) : rd_T43 l (i : Int) = l[i] := by
  unfold rd_T43
  rw [Int.toNat_natCast, List.getD_eq_getElem?_getD, List.getElem?_eq_getElem h]; rfl
/-- The pairs of each version are within the reach. -/
def okL (l : List S25) : Prop := ∀ x ∈ l, x.f4.length < 4398046511104
/-- Those whose place q holds of. -/
def fidx (q : Nat → Bool) : List S25 → Nat → List S25
  | [], _ => []
  | x :: l, i => if q i = true then x :: fidx q l (i + 1) else fidx q l (i + 1)
theorem fidx_len (q : Nat → Bool) : ∀ (l : List S25) (i : Nat), (fidx q l i).length ≤ l.length
  | [], _ => Nat.le_refl _
  | x :: l, i => by
    unfold fidx
    have := fidx_len q l (i + 1)
    split <;> simp <;> omega
theorem own_eq (x : S25) (h : x.f4.length < 4398046511104) : stack_own.f x.f0 x.f1 x.f2 x.f3 x.f4 = some (x.f0, x.f1, x.f2, x.f3, x.f4) := by
  unfold stack_own.f api_Pair.f
  rw [if_pos h]; rfl
theorem chosen_l0 (q : Nat → Bool) (p : Int → Option Bool) (l : List S25) (hl : l.length ≤ 1954687338267) (hp : ∀ i : Nat, i < l.length → p (i : Int) = some (q i)) (hk : okL l) (d : Nat) : ∀ (k i : Nat) (acc : List S25), i + d = l.length → d < k → acc.length ≤ i →
    stack_chosen.l0 p k acc l (l.length : Int) (i : Int) = some (acc ++ fidx q (l.drop i) i) := by
  induction d with
  | zero =>
    intro k i acc h hk' ha
    obtain ⟨k, rfl⟩ : ∃ z, k = z + 1 := ⟨k - 1, by omega⟩
    simp only [stack_chosen.l0]
    rw [if_neg (by omega), List.drop_of_length_le (by omega)]; simp [fidx]
  | succ d ih =>
    intro k i acc h hk' ha
    obtain ⟨k, rfl⟩ : ∃ z, k = z + 1 := ⟨k - 1, by omega⟩
    have hlt : i < l.length := by omega
    have hw : wrap64 ((i : Int) + 1) = ((i + 1 : Nat) : Int) := by unfold wrap64; omega
    simp only [stack_chosen.l0]
    rw [if_pos (by omega), if_pos (by omega), if_pos (by omega), rd_at l i hlt, hw, List.drop_eq_getElem_cons hlt]
    refine bind_of (hp i hlt) ?_
    by_cases hq : q i = true
    · rw [if_pos hq]
      refine bind_of (own_eq l[i] (hk _ (List.getElem_mem hlt))) ?_
      rw [if_pos (by omega), ih k (i + 1) _ (by omega) (by omega) (by simp; omega)]
      simp only [fidx]
      rw [if_pos hq]; simp
    · rw [if_neg hq, ih k (i + 1) _ (by omega) (by omega) (by omega)]
      simp only [fidx]
      rw [if_neg hq]
theorem chosen_eq (q : Nat → Bool) (p : Int → Option Bool) (l : List S25) (hl : l.length ≤ 1954687338267) (hp : ∀ i : Nat, i < l.length → p (i : Int) = some (q i)) (hk : okL l) (k : Nat) (hk' : l.length < k) : stack_chosen.f p k l = some (fidx q l 0) := by
  unfold stack_chosen.f
  have := chosen_l0 q p l hl hp hk l.length k 0 [] (by omega) hk' (by simp)
  simpa using this
/-! ### Remove -/
/-- No number stands there twice. -/
def Dist (l : List S25) : Prop := l.Pairwise (fun a b => a.f1 ≠ b.f1)
theorem pidx_none (s : Int) : ∀ (l : List S25) (i : Nat), (∀ x ∈ l, x.f1 ≠ s) → pidx (fun x => x.f1 == s) l i = -1
  | [], _, _ => rfl
  | x :: l, i, h => by
    unfold pidx
    rw [if_neg (by simpa using h x (List.mem_cons_self ..))]
    exact pidx_none s l (i + 1) fun y hy => h y (List.mem_cons_of_mem _ hy)
theorem pidx_some (s : Int) : ∀ (l : List S25) (i : Nat), (∃ x ∈ l, x.f1 = s) → ∃ j : Nat, pidx (fun x => x.f1 == s) l i = (j : Int) ∧ i ≤ j ∧ ∃ h : j - i < l.length, (l[j - i]).f1 = s
  | [], _, h => by obtain ⟨x, hx, _⟩ := h; cases hx
  | x :: l, i, h => by
    unfold pidx
    by_cases hx : x.f1 = s
    · rw [if_pos (by simpa using hx)]
      exact ⟨i, rfl, Nat.le_refl _, by simp, by simpa using hx⟩
    · rw [if_neg (by simpa using hx)]
      obtain ⟨y, hy, hs⟩ := h
      rcases List.mem_cons.1 hy with rfl | hy
      · exact absurd hs hx
      · obtain ⟨j, h1, h2, h3, h4⟩ := pidx_some s l (i + 1) ⟨y, hy, hs⟩
        refine ⟨j, h1, by omega, by simp; omega, ?_⟩
        have : j - i = (j - (i + 1)) + 1 := by omega
        simp only [this, List.getElem_cons_succ]
        exact h4
theorem fidx_above (j : Nat) : ∀ (l : List S25) (i : Nat), j < i → fidx (fun z => z != j) l i = l
  | [], _, _ => rfl
  | x :: l, i, h => by
    unfold fidx
    rw [if_pos (by simp; omega), fidx_above j l (i + 1) (by omega)]
theorem fidx_remove (s : Int) : ∀ (l : List S25) (i j : Nat), Dist l → pidx (fun x => x.f1 == s) l i = (j : Int) → fidx (fun z => z != j) l i = l.filter (fun x => x.f1 != s)
  | [], i, j, _, h => by simp [fidx]
  | x :: l, i, j, hd, h => by
    unfold pidx at h
    unfold Dist at hd
    rw [List.pairwise_cons] at hd
    by_cases hx : x.f1 = s
    · rw [if_pos (by simpa using hx)] at h
      obtain rfl : i = j := by omega
      unfold fidx
      rw [if_neg (by simp), fidx_above i l (i + 1) (by omega), List.filter_cons, if_neg (by simpa using hx)]
      refine (List.filter_eq_self.2 fun y hy => ?_).symm
      have := hd.1 y hy
      simp only [bne_iff_ne]
      intro e; exact this (hx.trans e.symm)
    · rw [if_neg (by simpa using hx)] at h
      have hij : j ≠ i := by
        rintro rfl
        by_cases he : ∃ y ∈ l, y.f1 = s
        · obtain ⟨j2, h1, h2, _⟩ := pidx_some s l (j + 1) he
          rw [h] at h1; omega
        · rw [pidx_none s l (j + 1) (fun y hy e => he ⟨y, hy, e⟩)] at h; omega
      unfold fidx
      rw [if_pos (by simpa using fun e => hij e.symm), fidx_remove s l (i + 1) j hd.2 h, List.filter_cons, if_pos (by simpa using hx)]
/-- Remove of a list without a number twice. -/
theorem remove_eq (l : List S25) (s : Int) (hd : Dist l) (hl : l.length ≤ 1954687338267) (hk : okL l) (k : Nat) (hk' : l.length < k) :
    ((∃ x ∈ l, x.f1 = s) → stack_Remove.f k l s = some (l.filter (fun x => x.f1 != s), 0)) ∧ (¬ (∃ x ∈ l, x.f1 = s) → stack_Remove.f k l s = some ([], 72)) := by
  unfold stack_Remove.f
  constructor
  · intro h
    obtain ⟨j, h1, _, h3, _⟩ := pidx_some s l 0 h
    refine bind_of (v := (j : Int)) (by unfold stack_place.f; rw [if_pos (by omega), h1]) ?_
    rw [if_neg (by omega)]
    refine bind_of (chosen_eq (fun z => z != j) _ l hl (fun i _ => by congr 1; rw [Bool.eq_iff_iff]; simp; omega) hk k hk') ?_
    rw [fidx_remove s l 0 j hd h1]
  · intro h
    refine bind_of (v := (-1 : Int)) (by unfold stack_place.f; rw [if_pos (by omega), pidx_none s l 0 (fun y hy e => h ⟨y, hy, e⟩)]) ?_
    rw [if_pos (by omega)]
/-! ### Since -/
theorem fidx_filter (q : Nat → Bool) (f : S25 → Bool) : ∀ (l : List S25) (i : Nat), (∀ j (h : j < l.length), q (i + j) = f l[j]) → fidx q l i = l.filter f
  | [], _, _ => rfl
  | x :: l, i, h => by
    have h0 := h 0 (by simp)
    have ih := fidx_filter q f l (i + 1) fun j hj => by
      have := h (j + 1) (by simp; omega)
      rw [Nat.add_right_comm, Nat.add_assoc]; simpa using this
    unfold fidx
    simp only [Nat.add_zero, List.getElem_cons_zero] at h0
    rw [List.filter_cons, h0, ih]
theorem since_eq (l : List S25) (m : Int) (hl : l.length ≤ 1954687338267) (hk : okL l) (k : Nat) (hk' : l.length < k) : stack_Since.f k l m = some (l.filter (fun x => decide (x.f1 ≥ m))) := by
  unfold stack_Since.f
  rw [chosen_eq (fun j => decide ((rd_T25 l (j : Int)).f1 ≥ m)) _ l hl (fun i hi => rfl) hk k hk', fidx_filter _ (fun x => decide (x.f1 ≥ m)) l 0]
  intro j hj
  rw [Nat.zero_add, rd_at l j hj]
theorem rows_f (l : List S25) (hl : l.length ≤ 1954687338267) : stack_Rows.f l = some (l.reverse.map rowOf) := by
  unfold stack_Rows.f; rw [if_pos (by omega)]
end Go.Proofs.Ytmgiolijjheodaa.Link
