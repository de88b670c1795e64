/- The document's Push and Top against the program's. -/
import Derived.Test.YtmgiolijjheodaaSpareMath
import Derived.Test.YtmgiolijjheodaaX7
import Derived.Test.YtmgiolijjheodaaX8
import Derived.Test.YtmgiolijjheodaaX19
import Derived.Test.YtmgiolijjheodaaX20
namespace Go.Proofs.Ytmgiolijjheodaa.Link
set_option linter.unusedVariables false
set_option linter.unusedSimpArgs false
open Go.RowKit Go.Proofs.Ytmgiolijjheodaa.X Go.Proofs.YtmgiolijjheodaaW.PrintWords Go.Proofs.YtmgiolijjheodaaW.PrintLast

theorem fidx_every : ∀ (l : List S25) (i : Nat), fidx (fun _ => true) l i = l
  | [], _ => rfl
  | x :: l, i => by unfold fidx; rw [if_pos rfl, fidx_every l (i + 1)]
theorem rcopy_l0 (l : List S25) (hl : l.length ≤ 1954687338267) (ho : okL l) (d : Nat) : ∀ (k i : Nat) (acc : List S25), i + d = l.length → d < k → acc.length ≤ i → cofferref14_Copy.l0 k l acc (i : Int) = some (acc ++ l.drop i) := by
  induction d with
  | zero =>
    intro k i acc h hk' ha
    obtain ⟨k, rfl⟩ : ∃ q, k = q + 1 := ⟨k - 1, by omega⟩
    rw [cofferref14_Copy.l0, if_neg (by omega), List.drop_of_length_le (by omega)]; simp
  | succ d ih =>
    intro k i acc h hk' ha
    obtain ⟨k, rfl⟩ : ∃ q, k = q + 1 := ⟨k - 1, by omega⟩
    have hlt : i < l.length := by omega
    have hw : wrap64 ((i : Int) + 1) = ((i + 1 : Nat) : Int) := by unfold wrap64; omega
    rw [cofferref14_Copy.l0, if_pos (by omega), if_pos (by omega), hw, List.drop_eq_getElem_cons hlt, rd_at l i hlt]
    refine bind_of (rown_eq _ (ho _ (List.getElem_mem hlt))) ?_
    rw [if_pos (by omega)]
    refine (ih k (i + 1) (acc ++ [l[i]]) (by omega) (by omega) (by simp; omega)).trans ?_
    rw [List.append_assoc]; rfl
theorem rcopy_eq (l : List S25) (hl : l.length ≤ 1954687338267) (ho : okL l) (k : Nat) (hk : l.length < k) : cofferref14_Copy.f k l = some l := by
  unfold cofferref14_Copy.f
  have := rcopy_l0 l hl ho l.length k 0 [] (by omega) hk (by simp)
  simpa using this
/-- Push: of a list whatever. -/
theorem push_both (l : List S25) (v : S25) (hl : l.length ≤ 1954687338211) (ho : okL l) (hv : v.f4.length < 4398046511104) (k : Nat) (hk : l.length + 2 < k) :
    ∃ (m : List S25) (e : Int), m.length ≤ l.length + 1 ∧ okL m ∧ stack_Push.f k l v.f0 v.f1 v.f2 v.f3 v.f4 = some (m, e) ∧ cofferref14_Push.f k l v.f0 v.f1 v.f2 v.f3 v.f4 = some (m, e) := by
  obtain ⟨k, rfl⟩ : ∃ q, k = q + 2 := ⟨k - 2, by omega⟩
  have hj1 : ∀ b : Bool, ∃ (m : List S25) (e : Int), m.length ≤ l.length + 1 ∧ okL m ∧ stack_Push.j1 (k + 1) l b v.f0 v.f1 v.f2 v.f3 v.f4 = some (m, e) ∧ cofferref14_Push.j1 (k + 1) l b v.f0 v.f1 v.f2 v.f3 v.f4 = some (m, e) := by
    intro b
    cases b with
    | true => exact ⟨[], 74, by simp, by simp [okL], by rw [stack_Push.j1, if_pos rfl], by rw [cofferref14_Push.j1, if_pos rfl]⟩
    | false =>
      refine ⟨l ++ [v], 0, by simp, ?_, ?_, ?_⟩
      · intro x hx
        rcases List.mem_append.1 hx with hx | hx
        · exact ho x hx
        · rw [List.mem_singleton.1 hx]; exact hv
      · rw [stack_Push.j1, if_neg (by decide)]
        refine bind_of (chosen_eq (fun _ => true) stack_always.f l (by omega) (fun i _ => rfl) ho k (by omega)) ?_
        rw [fidx_every]
        refine bind_of (own_eq v hv) ?_
        rw [if_pos (by omega)]
      · rw [cofferref14_Push.j1, if_neg (by decide)]
        refine bind_of (rcopy_eq l (by omega) ho k (by omega)) ?_
        refine bind_of (rown_eq v hv) ?_
        rw [if_pos (by omega)]
  have hj0 : ∀ b : Bool, ∃ (m : List S25) (e : Int), m.length ≤ l.length + 1 ∧ okL m ∧ stack_Push.j0 (k + 2) l (l.length : Int) b v.f0 v.f1 v.f2 v.f3 v.f4 = some (m, e) ∧ cofferref14_Push.j0 (k + 2) l (l.length : Int) b v.f0 v.f1 v.f2 v.f3 v.f4 = some (m, e) := by
    intro b
    rw [stack_Push.j0, cofferref14_Push.j0]
    cases b with
    | true => exact ⟨[], 61, by simp, by simp [okL], if_pos rfl, if_pos rfl⟩
    | false =>
      rw [if_neg (show ¬ (false = true) from Bool.false_ne_true), if_neg (show ¬ (false = true) from Bool.false_ne_true)]
      by_cases h1 : v.f1 < 1
      · rw [if_pos h1, if_pos h1]; exact hj1 true
      · rw [if_neg h1, if_neg h1]
        by_cases h0 : l.length = 0
        · rw [if_neg (by omega), if_neg (by omega)]; exact hj1 false
        · have hw : wrap64 ((l.length : Int) - 1) = ((l.length - 1 : Nat) : Int) := by unfold wrap64; omega
          rw [if_pos (by omega), if_pos (by omega), hw, if_pos (by omega), if_pos (by omega), if_pos (by omega), if_pos (by omega)]
          exact hj1 _
  unfold stack_Push.f cofferref14_Push.f
  by_cases h0 : l.length = 0
  · rw [if_neg (by omega), if_neg (by omega)]; exact hj0 false
  · have hw : wrap64 ((l.length : Int) - 1) = ((l.length - 1 : Nat) : Int) := by unfold wrap64; omega
    rw [if_pos (by omega), if_pos (by omega), hw, if_pos (by omega), if_pos (by omega), if_pos (by omega), if_pos (by omega)]
    exact hj0 _
/-- Top: of a list whatever. -/
theorem top_both (l : List S25) (hl : l.length ≤ 1954687338267) (ho : okL l) :
    ∃ (x : S25) (e : Int), x.f4.length < 4398046511104 ∧ stack_Top.f l = some (x.f0, x.f1, x.f2, x.f3, x.f4, e) ∧ cofferref14_Top.f l = some (x.f0, x.f1, x.f2, x.f3, x.f4, e) := by
  unfold stack_Top.f cofferref14_Top.f
  by_cases h0 : l.length = 0
  · rw [if_pos (by omega), if_pos (by omega)]
    exact ⟨⟨(⟨#[]⟩ : ByteArray), 0, false, (⟨#[]⟩ : ByteArray), []⟩, 72, by simp, rfl, rfl⟩
  · have hw : wrap64 ((l.length : Int) - 1) = ((l.length - 1 : Nat) : Int) := by unfold wrap64; omega
    have hm := ho _ (List.getElem_mem (show l.length - 1 < l.length by omega))
    have q0 : ¬ ((l.length : Int) = 0) := by omega
    have q1 : (0 : Int) ≤ ((l.length - 1 : Nat) : Int) := by omega
    have q2 : ((l.length - 1 : Nat) : Int) < (l.length : Int) := by omega
    rw [if_neg q0, if_neg q0, hw, if_pos q1, if_pos q1, if_pos q2, if_pos q2, rd_at l _ (by omega)]
    by_cases hf : l[l.length - 1].f2 = true
    · rw [if_pos hf, if_pos hf]
      exact ⟨⟨(⟨#[]⟩ : ByteArray), 0, false, (⟨#[]⟩ : ByteArray), []⟩, 73, by simp, rfl, rfl⟩
    · rw [if_neg hf, if_neg hf]
      exact ⟨l[l.length - 1], 0, hm, bind_of (own_eq _ hm) rfl, bind_of (rown_eq _ hm) rfl⟩
end Go.Proofs.Ytmgiolijjheodaa.Link
