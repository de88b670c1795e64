/- StackParts: of a right stack two Removes in either order are the same; Since and what is below make it up; the Rows of Since are the first Rows. No condition beside the row's own. -/
import Derived.Test.YtmgiolijjheodaaStStackParts
import Derived.Test.YtmgiolijjheodaaStackLike
import Derived.Test.YtmgiolijjheodaaStackMade
import Derived.Test.YtmgiolijjheodaaX16
namespace Go.Proofs.Ytmgiolijjheodaa.Pure
set_option linter.unusedVariables false
set_option linter.unusedSimpArgs false
open Go.RowKit Go.Proofs.Ytmgiolijjheodaa.X Go.Proofs.Ytmgiolijjheodaa.Link Go.Proofs.YtmgiolijjheodaaW.PrintWords Go.Proofs.YtmgiolijjheodaaW.PrintLast

theorem head_true : cofferlaw14_head.f 30 = some true := by decide +kernel
theorem head_any (k : Nat) (hk : 30 ≤ k) : cofferlaw14_head.f k = some true := at_rounds (fun k => cofferlaw14_head.mono k) hk head_true
theorem okL_filter {l : List S25} (h : okL l) (f : S25 → Bool) : okL (l.filter f) := fun x hx => h x (List.mem_filter.1 hx).1
/-- Of a list whose numbers rise: those from a number on are its end. -/
theorem since_end (m : Int) : ∀ l : List S25, l.Pairwise (fun a b => a.f1 < b.f1) → ∃ p : List S25, l = p ++ l.filter (fun x => decide (x.f1 ≥ m)) ∧ ∀ x ∈ p, x.f1 < m
  | [], _ => ⟨[], rfl, by simp⟩
  | x :: l, h => by
    rw [List.pairwise_cons] at h
    by_cases hx : x.f1 ≥ m
    · refine ⟨[], ?_, by simp⟩
      rw [List.nil_append]
      refine (List.filter_eq_self.2 fun y hy => ?_).symm
      rcases List.mem_cons.1 hy with rfl | hy
      · simpa using hx
      · have := h.1 y hy; simp; omega
    · obtain ⟨p, h1, h2⟩ := since_end m l h.2
      refine ⟨x :: p, ?_, ?_⟩
      · rw [List.filter_cons, if_neg (by simpa using hx), List.cons_append, ← h1]
      · intro y hy
        rcases List.mem_cons.1 hy with rfl | hy
        · omega
        · exact h2 y hy
theorem l2_true (s z p : List S25) (hs : s = p ++ z) (hl : s.length ≤ 1954687338267) (d : Nat) : ∀ (k i : Nat), i + d = s.length → d < k → cofferlaw14_StackParts.l2 k s (s.reverse.map rowOf) (z.reverse.map rowOf) (i : Int) = some true := by
  have hsl : s.length = p.length + z.length := by rw [hs]; simp
  induction d with
  | zero =>
    intro k i h hk
    obtain ⟨k, rfl⟩ : ∃ q, k = q + 1 := ⟨k - 1, by omega⟩
    simp only [cofferlaw14_StackParts.l2]
    rw [if_neg (by simp; omega)]
  | succ d ih =>
    intro k i h hk
    obtain ⟨k, rfl⟩ : ∃ q, k = q + 1 := ⟨k - 1, by omega⟩
    have hlt : i < s.length := by omega
    have hw : wrap64 ((i : Int) + 1) = ((i + 1 : Nat) : Int) := by unfold wrap64; omega
    have hj : wrap64 (wrap64 ((s.length : Int) - 1) - (i : Int)) = ((s.length - 1 - i : Nat) : Int) := by unfold wrap64; omega
    have hr : rd_T43 (s.reverse.map rowOf) (i : Int) = rowOf s[s.length - 1 - i] := by
      rw [rd43_at _ i (by simpa using hlt)]; simp
    have hx : rd_T25 s ((s.length - 1 - i : Nat) : Int) = s[s.length - 1 - i] := rd_at s _ (by omega)
    simp only [cofferlaw14_StackParts.l2]
    rw [if_pos (by simp; omega), hj, if_pos (by omega), if_pos (by omega), if_pos (by omega), hr, hx, hw, ih k (i + 1) (by omega) (by omega)]
    rw [if_neg (by simp [rowOf])]
    by_cases hz : i < z.length
    · have hq : rd_T43 (z.reverse.map rowOf) (i : Int) = rowOf s[s.length - 1 - i] := by
        rw [rd43_at _ i (by simpa using hz)]
        simp only [List.getElem_map, List.getElem_reverse]
        congr 1
        simp only [hs]
        rw [List.getElem_append_right (by simp; omega)]
        congr 1
        simp; omega
      rw [if_pos (by simp; omega), hq, if_neg (by simp)]
    · rw [if_neg (by simp; omega)]
theorem l1_true (m : Int) (s z p : List S25) (hs : s = p ++ z) (hz : ∀ x ∈ z, m ≤ x.f1) (hl : s.length ≤ 1954687338267) (d : Nat) : ∀ (k i : Nat), i + d = s.length → p.length ≤ i → d + s.length + 10 < k → cofferlaw14_StackParts.l1 k m s z (i : Int) = some true := by
  have hsl : s.length = p.length + z.length := by rw [hs]; simp
  induction d with
  | zero =>
    intro k i h hp hk
    obtain ⟨k, rfl⟩ : ∃ q, k = q + 2 := ⟨k - 2, by omega⟩
    rw [cofferlaw14_StackParts.l1, if_neg (by omega)]
    refine bind_of (rows_f s hl) ?_
    refine bind_of (rows_f z (by omega)) ?_
    rw [if_pos (by simp), show (((z.reverse.map rowOf).length : Int) != (z.length : Int)) = false by simp, cofferlaw14_StackParts.j5, if_neg (by decide)]
    exact l2_true s z p hs hl s.length k 0 (by omega) (by omega)
  | succ d ih =>
    intro k i h hp hk
    obtain ⟨k, rfl⟩ : ∃ q, k = q + 1 := ⟨k - 1, by omega⟩
    have hlt : i < s.length := by omega
    have hw : wrap64 ((i : Int) + 1) = ((i + 1 : Nat) : Int) := by unfold wrap64; omega
    have hx : m ≤ s[i].f1 := by
      refine hz _ ?_
      have : s[i] = z[i - p.length]'(by omega) := by
        simp only [hs]; rw [List.getElem_append_right hp]
      rw [this]; exact List.getElem_mem _
    rw [cofferlaw14_StackParts.l1, if_pos (by omega), if_pos (by omega), rd_at s i hlt, if_neg (by omega), hw]
    exact ih k (i + 1) (by omega) (by omega) (by omega)
theorem l0_true (m : Int) (s z p : List S25) (hs : s = p ++ z) (hz : ∀ x ∈ z, m ≤ x.f1) (hp : ∀ x ∈ p, x.f1 < m) (hl : s.length ≤ 1954687338267) (d : Nat) : ∀ (k i : Nat), i + d = p.length → d + 2 * s.length + 20 < k → cofferlaw14_StackParts.l0 k m s z (p.length : Int) (i : Int) = some true := by
  have hsl : s.length = p.length + z.length := by rw [hs]; simp
  induction d with
  | zero =>
    intro k i h hk
    obtain ⟨k, rfl⟩ : ∃ q, k = q + 1 := ⟨k - 1, by omega⟩
    obtain rfl : i = p.length := by omega
    rw [cofferlaw14_StackParts.l0, if_neg (by omega)]
    exact l1_true m s z p hs hz hl z.length k p.length (by omega) (Nat.le_refl _) (by omega)
  | succ d ih =>
    intro k i h hk
    obtain ⟨k, rfl⟩ : ∃ q, k = q + 1 := ⟨k - 1, by omega⟩
    have hlt : i < s.length := by omega
    have hw : wrap64 ((i : Int) + 1) = ((i + 1 : Nat) : Int) := by unfold wrap64; omega
    have hx : s[i].f1 < m := by
      refine hp _ ?_
      have : s[i] = p[i]'(by omega) := by
        simp only [hs]; rw [List.getElem_append_left (by omega)]
      rw [this]; exact List.getElem_mem _
    rw [cofferlaw14_StackParts.l0, if_pos (by omega), if_pos (by omega), if_pos (by omega), rd_at s i hlt, if_neg (by omega), hw]
    exact ih k (i + 1) (by omega) (by omega)
theorem j1_true (m : Int) (s : List S25) (hr : Rt s) (ho : okL s) (hl : s.length ≤ 1954687338267) (k : Nat) (hk : 3 * s.length + 4398046511200 < k) : cofferlaw14_StackParts.j1 k m s = some true := by
  obtain ⟨k, rfl⟩ : ∃ q, k = q + 2 := ⟨k - 2, by omega⟩
  obtain ⟨p, hp1, hp2⟩ := since_end m s hr.2.2
  have hz : ∀ x ∈ s.filter (fun x => decide (x.f1 ≥ m)), m ≤ x.f1 := fun x hx => by simpa using (List.mem_filter.1 hx).2
  have hrz := hr.filter (fun x => decide (x.f1 ≥ m))
  have hoz := okL_filter ho (fun x => decide (x.f1 ≥ m))
  have hsin := since_eq s m hl ho (k + 1) (by omega)
  generalize s.filter (fun x => decide (x.f1 ≥ m)) = z at *
  have hsl : s.length = p.length + z.length := by
    have := congrArg List.length hp1; simpa using this
  have hw : wrap64 ((s.length : Int) - (z.length : Int)) = (p.length : Int) := by unfold wrap64; omega
  have hdrop : s.drop p.length = z := by rw [hp1]; simp
  rw [cofferlaw14_StackParts.j1]
  refine bind_of hsin ?_
  rw [hw, if_neg (by omega)]
  refine bind_of (right_true z hrz (by omega) (k + 1) (by omega)) ?_
  rw [if_pos rfl, if_pos (by omega), if_pos (by omega), Int.toNat_natCast, hdrop]
  refine bind_of (alike_self z (by omega) hoz (k + 1) (by omega)) ?_
  show cofferlaw14_StackParts.j2 (k + 1) m s z (p.length : Int) false = some true
  rw [cofferlaw14_StackParts.j2, if_neg (by decide)]
  exact l0_true m s z p hp1 hz hp2 hl p.length k 0 (by omega) (by omega)
theorem j0_true (one two m : Int) (s : List S25) (hr : Rt s) (ho : okL s) (hl : s.length ≤ 1954687338267) (h1 : ∃ x ∈ s, x.f1 = one) (h2 : ∃ x ∈ s, x.f1 = two) (k : Nat) (hk : 3 * s.length + 4398046511210 < k) :
    cofferlaw14_StackParts.j0 k one two m s (s.filter (fun x => x.f1 != one)) (s.filter (fun x => x.f1 != two)) (one != two) = some true := by
  obtain ⟨k, rfl⟩ : ∃ q, k = q + 1 := ⟨k - 1, by omega⟩
  have hj := j1_true m s hr ho hl k (by omega)
  rw [cofferlaw14_StackParts.j0]
  by_cases he : one = two
  · rw [show (one != two) = false by simp [he], if_neg (by decide)]; exact hj
  · rw [show (one != two) = true by simp [he], if_pos rfl]
    have f1 := List.length_filter_le (fun x : S25 => x.f1 != one) s
    have f2 := List.length_filter_le (fun x : S25 => x.f1 != two) s
    have a := (remove_eq (s.filter (fun x => x.f1 != one)) two (hr.filter _).dist (by omega) (okL_filter ho _) k (by omega)).1 (by
      obtain ⟨x, hx, hq⟩ := h2
      exact ⟨x, List.mem_filter.2 ⟨hx, by simp only [bne_iff_ne]; intro e; exact he (e.symm.trans hq)⟩, hq⟩)
    have b := (remove_eq (s.filter (fun x => x.f1 != two)) one (hr.filter _).dist (by omega) (okL_filter ho _) k (by omega)).1 (by
      obtain ⟨x, hx, hq⟩ := h1
      exact ⟨x, List.mem_filter.2 ⟨hx, by simp only [bne_iff_ne]; intro e; exact he (hq.symm.trans e)⟩, hq⟩)
    have hc : (s.filter (fun x => x.f1 != two)).filter (fun x => x.f1 != one) = (s.filter (fun x => x.f1 != one)).filter (fun x => x.f1 != two) := by
      rw [List.filter_filter, List.filter_filter]; congr 1; funext x; exact Bool.and_comm ..
    have f3 := List.length_filter_le (fun x : S25 => x.f1 != two) (s.filter (fun x => x.f1 != one))
    refine bind_of a ?_
    refine bind_of b ?_
    rw [if_pos rfl, if_pos rfl, hc]
    refine bind_of (alike_self _ (by omega) (okL_filter (okL_filter ho _) _) k (by omega)) ?_
    rw [if_pos rfl]
    refine bind_of (right_true _ ((hr.filter _).filter _) (by omega) k (by omega)) ?_
    rw [if_pos rfl]
    exact hj
theorem StackParts : cofferlaw14_StackParts.Pure := by
  intro l key one two m hl _ _ _ _
  obtain ⟨hl, hq⟩ := hl
  have ho : okL l := fun x hx => by have := (hq x hx).2.2.2.2.1; omega
  refine ⟨4 * l.length + 4398046512000, ?_⟩
  generalize hk : 4 * l.length + 4398046512000 = k
  obtain ⟨s, h1, h2, h3, h4, _⟩ := made_eq l key (by omega) ho k (by omega)
  have hsl : s.length ≤ 1954687338267 := by omega
  have hf : ∀ a b : List S25, cofferlaw14_StackParts.j0 k one two m s a b false = some true := by
    intro a b
    obtain ⟨k, rfl⟩ : ∃ q, k = q + 1 := ⟨k - 1, by omega⟩
    rw [cofferlaw14_StackParts.j0, if_neg (by decide)]
    exact j1_true m s h3 h4 hsl k (by omega)
  have r1 := remove_eq s one h3.dist hsl h4 k (by omega)
  have r2 := remove_eq s two h3.dist hsl h4 k (by omega)
  unfold cofferlaw14_StackParts.f
  refine bind_of (head_any k (by omega)) ?_
  rw [if_pos rfl]
  refine bind_of h1 ?_
  by_cases e1 : ∃ x ∈ s, x.f1 = one
  · refine bind_of (r1.1 e1) ?_
    by_cases e2 : ∃ x ∈ s, x.f1 = two
    · refine bind_of (r2.1 e2) ?_
      rw [if_pos rfl, if_pos rfl]
      exact j0_true one two m s h3 h4 hsl e1 e2 k (by omega)
    · refine bind_of (r2.2 e2) ?_
      rw [if_pos rfl, if_neg (by decide)]
      exact hf _ _
  · refine bind_of (r1.2 e1) ?_
    by_cases e2 : ∃ x ∈ s, x.f1 = two
    · refine bind_of (r2.1 e2) ?_
      rw [if_neg (by decide)]
      exact hf _ _
    · refine bind_of (r2.2 e2) ?_
      rw [if_neg (by decide)]
      exact hf _ _
end Go.Proofs.Ytmgiolijjheodaa.Pure
