-- By a program of this session (wip/xprint.py over the kit's print).
import Derived.Test.YtmgiolijjheodaaX0
import Derived.Test.YtmgiolijjheodaaX21
import Derived.Test.YtmgiolijjheodaaZMoreV
namespace Go.Proofs.Ytmgiolijjheodaa.X
open Go.RowKit Go.Proofs.YtmgiolijjheodaaW.PrintWords Go.Proofs.YtmgiolijjheodaaW.PrintLast Go.Proofs.YtmgiolijjheodaaW.PrintMore
attribute [local go_sem] Go.Proofs.Ytmgiolijjheodaa.Z.leq_string Go.Proofs.Ytmgiolijjheodaa.Z.gtr_string Go.Proofs.Ytmgiolijjheodaa.Z.geq_string   -- for this text's walks alone
set_option linter.unusedVariables false
set_option linter.unusedSimpArgs false

/-! ### cofferlaw14_lent: function 11 -/
def cofferlaw14_lent.l0 : Nat → List (S25) → List (S25) → Int → Option ((List (S25)))
  | 0, _, _, _ => none
  | k + 1, x0, x3, x4 => if x4 < (x0.length : Int) then (if 0 ≤ x4 then ((cofferlaw14_lentPairs.f ((rd_T25 x0 x4).f4)).bind fun t266 => (if 0 ≤ (((rd_T25 x0 x4).f4).length : Int) then (if (((rd_T25 x0 x4).f4).length : Int) ≤ (t266.length : Int) then (if x3.length < 1954687338268 then (cofferlaw14_lent.l0 k x0 (x3 ++ [(⟨(rd_T25 x0 x4).f0, (rd_T25 x0 x4).f1, (rd_T25 x0 x4).f2, (rd_T25 x0 x4).f3, (t266.take ((((rd_T25 x0 x4).f4).length : Int) : Int).toNat)⟩ : S25)]) (wrap64 (x4 + 1))) else (none)) else (none)) else (none))) else (none)) else ((some (([(⟨(⟨#[109, 97, 114, 107]⟩ : ByteArray), (-77), false, (⟨#[]⟩ : ByteArray), ([] : List (S49))⟩ : S25), (⟨(⟨#[]⟩ : ByteArray), 0, false, (⟨#[109, 97, 114, 107]⟩ : ByteArray), ([] : List (S49))⟩ : S25)] : List (S25)) : List (S25))).bind fun y277 => (if x3.length + y277.length < 1954687338268 then (some (x3 ++ y277)) else (none)))
def cofferlaw14_lent.f (k : Nat) (l0 : List (S25)) : Option ((List (S25))) := cofferlaw14_lent.l0 k l0 ([] : List (S25)) 0
theorem cofferlaw14_lent.mono_l : ∀ k, (∀ y0 y1 y2, LeO (cofferlaw14_lent.l0 k y0 y1 y2) (cofferlaw14_lent.l0 (k + 1) y0 y1 y2))
  | 0 => fun _ _ _ r h => by simp [cofferlaw14_lent.l0] at h
  | k + 1 => by
    have ih0 := cofferlaw14_lent.mono_l k
    · intro y0 y1 y2
      unfold cofferlaw14_lent.l0
      repeat' first
      | (with_reducible exact ih0 _ _ _)
      | (with_reducible exact LeO.refl _)
      | (with_reducible exact LeO.none _)
      | (with_reducible refine LeO.ite ?_ ?_)
      | (with_reducible refine LeO.bind ?_ (fun _ => ?_))
      | exact ih0 _ _ _
      | exact LeO.none _
      | refine LeO.ite ?_ ?_
      | refine LeO.bind ?_ (fun _ => ?_)
theorem cofferlaw14_lent.mono : ∀ a0 k, LeO (cofferlaw14_lent.f k a0) (cofferlaw14_lent.f (k + 1) a0) := by
  intro a0 k
  have ih0 := cofferlaw14_lent.mono_l k
  unfold cofferlaw14_lent.f
  repeat' first
      | (with_reducible exact ih0 _ _ _)
      | (with_reducible exact LeO.refl _)
      | (with_reducible exact LeO.none _)
      | (with_reducible refine LeO.ite ?_ ?_)
      | (with_reducible refine LeO.bind ?_ (fun _ => ?_))
      | exact ih0 _ _ _
      | exact LeO.none _
      | refine LeO.ite ?_ ?_
      | refine LeO.bind ?_ (fun _ => ?_)
def cofferlaw14_lent.T6 : Bool × List (List Nat × List Nat) := (true, [([], []), ([0], [0]), ([1], [1]), ([], []), ([3], [3]), ([4], [4]), ([2, 5], [2, 5]), ([0, 1, 2, 3, 4, 5, 6], []), ([7, 6, 2, 0, 1, 2, 3, 4, 5, 6], [6, 7])])
def cofferlaw14_lent.B6 : List Nat := [0, 1, 3, 0, 8, 24, 63, 127, 255]
theorem cofferlaw14_lent.tab6 : rtab .any (opsOf Try.f11 6) = cofferlaw14_lent.T6 := by kernel_rfl
theorem cofferlaw14_lent.bits6 : waitsOk cofferlaw14_lent.T6.2 cofferlaw14_lent.B6 = true := by kernel_rfl
end Go.Proofs.Ytmgiolijjheodaa.X
