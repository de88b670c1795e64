/- made: a right stack out of any versions. -/
import Derived.Test.YtmgiolijjheodaaStackLike
import Derived.Test.YtmgiolijjheodaaX28
namespace Go.Proofs.Ytmgiolijjheodaa.Link
set_option linter.unusedVariables false
set_option linter.unusedSimpArgs false
open Go.RowKit Go.Proofs.Ytmgiolijjheodaa.X Go.Proofs.YtmgiolijjheodaaW.PrintWords Go.Proofs.YtmgiolijjheodaaW.PrintLast

theorem and3 (y : Int) : 0 ≤ Go.bits .and .i64 y 3 ∧ Go.bits .and .i64 y 3 ≤ 3 := by
  have hc : (BitVec.ofInt 64 (3 : Int)).toNat = 3 := by decide
  have e : Go.bits .and .i64 y (3 : Int) = IntKind.i64.wrap ((BitVec.ofInt 64 y &&& BitVec.ofInt 64 (3 : Int)).toNat : Int) := rfl
  have hl : (BitVec.ofInt 64 y &&& BitVec.ofInt 64 (3 : Int)).toNat ≤ 3 := by
    rw [BitVec.toNat_and, hc]; exact Nat.and_le_right
  rw [e]
  generalize (BitVec.ofInt 64 y &&& BitVec.ofInt 64 (3 : Int)).toNat = m at *
  rw [i64_w]; unfold wrap64; omega
theorem made_l0 (l : List S25) (key : ByteArray) (hl : l.length ≤ 1954687338267) (hk : okL l) (d : Nat) : ∀ (k i : Nat) (acc : List S25) (q : Int), i + d = l.length → d < k → acc.length = i → 0 ≤ q → q ≤ 4 * i → (∀ x ∈ acc, 1 ≤ x.f1 ∧ x.f1 ≤ q ∧ x.f0 = key) → acc.Pairwise (fun a b => a.f1 < b.f1) → okL acc →
    ∃ s, cofferlaw14_made.l0 k l key acc q (i : Int) = some s ∧ s.length = l.length ∧ (∀ x ∈ s, 1 ≤ x.f1 ∧ x.f1 ≤ 4 * l.length ∧ x.f0 = key) ∧ s.Pairwise (fun a b => a.f1 < b.f1) ∧ okL s := by
  induction d with
  | zero =>
    intro k i acc q h hk' ha h0 hq h1 h2 h3
    obtain ⟨k, rfl⟩ : ∃ z, k = z + 1 := ⟨k - 1, by omega⟩
    simp only [cofferlaw14_made.l0]
    rw [if_neg (by omega)]
    exact ⟨acc, rfl, by omega, fun x hx => by have := h1 x hx; exact ⟨this.1, by omega, this.2.2⟩, h2, h3⟩
  | succ d ih =>
    intro k i acc q h hk' ha h0 hq h1 h2 h3
    obtain ⟨k, rfl⟩ : ∃ z, k = z + 1 := ⟨k - 1, by omega⟩
    have hlt : i < l.length := by omega
    have hw : wrap64 ((i : Int) + 1) = ((i + 1 : Nat) : Int) := by unfold wrap64; omega
    have ho := hk _ (List.getElem_mem hlt)
    have hb := and3 l[i].f1
    simp only [cofferlaw14_made.l0]
    rw [if_pos (by omega), if_pos (by omega), rd_at l i hlt, hw]
    rw [lown_eq l[i] ho, Option.bind_some]
    dsimp only
    have hs : wrap64 (wrap64 (q + 1) + Go.bits .and .i64 l[i].f1 3) = q + 1 + Go.bits .and .i64 l[i].f1 3 := by
      generalize Go.bits .and .i64 l[i].f1 3 = b at *
      unfold wrap64; omega
    rw [hs, if_pos (by omega)]
    generalize Go.bits .and .i64 l[i].f1 3 = b at *
    refine ih k (i + 1) _ (q + 1 + b) (by omega) (by omega) (by simp; omega) (by omega) (by omega) ?_ ?_ ?_
    · intro x hx
      rcases List.mem_append.1 hx with hx | hx
      · have := h1 x hx; exact ⟨this.1, by omega, this.2.2⟩
      · obtain rfl := List.mem_singleton.1 hx
        exact ⟨by simp only; omega, by simp only; omega, rfl⟩
    · rw [List.pairwise_append]
      refine ⟨h2, List.pairwise_singleton _ _, fun x hx y hy => ?_⟩
      obtain rfl := List.mem_singleton.1 hy
      have := h1 x hx
      simp only; omega
    · intro x hx
      rcases List.mem_append.1 hx with hx | hx
      · exact h3 x hx
      · obtain rfl := List.mem_singleton.1 hx
        exact ho
theorem made_eq (l : List S25) (key : ByteArray) (hl : l.length ≤ 1954687338267) (hk : okL l) (k : Nat) (hk' : l.length < k) : ∃ s, cofferlaw14_made.f k l key = some s ∧ s.length = l.length ∧ Rt s ∧ okL s ∧ (∀ x ∈ s, x.f1 ≤ 4 * l.length) := by
  obtain ⟨s, h1, h2, h3, h4, h5⟩ := made_l0 l key hl hk l.length k 0 [] 0 (by omega) hk' rfl (by omega) (by omega) (by simp) List.Pairwise.nil (by simp [okL])
  exact ⟨s, h1, h2, ⟨fun x hx => (h3 x hx).1, fun x hx y hy => (h3 x hx).2.2.trans (h3 y hy).2.2.symm, h4⟩, h5, fun x hx => (h3 x hx).2.1⟩
end Go.Proofs.Ytmgiolijjheodaa.Link
