-- By a program of this session (wip/xprint.py over the kit's print).
import Derived.Test.YtmgiolijjheodaaX0
import Derived.Test.YtmgiolijjheodaaX1
import Derived.Test.YtmgiolijjheodaaX16
import Derived.Test.YtmgiolijjheodaaX28
import Derived.Test.YtmgiolijjheodaaX30
import Derived.Test.YtmgiolijjheodaaX31
import Derived.Test.YtmgiolijjheodaaRemove
import Derived.Test.YtmgiolijjheodaaRowsFn
namespace Go.Proofs.Ytmgiolijjheodaa.X
open Go.RowKit Go.Proofs.YtmgiolijjheodaaW.PrintWords Go.Proofs.YtmgiolijjheodaaW.PrintLast Go.Proofs.YtmgiolijjheodaaW.PrintMore
attribute [local go_sem] Go.Proofs.Ytmgiolijjheodaa.Z.leq_string Go.Proofs.Ytmgiolijjheodaa.Z.gtr_string Go.Proofs.Ytmgiolijjheodaa.Z.geq_string   -- for this text's walks alone
set_option linter.unusedVariables false
set_option linter.unusedSimpArgs false

attribute [local go_sem high] eqA43
/-! ### cofferlaw14_StackParts: function 4 -/
mutual
def cofferlaw14_StackParts.j0 : Nat → Int → Int → Int → List (S25) → List (S25) → List (S25) → Bool → Option (Bool)
 | 0,_,_,_,_,_,_,_ => none
 | k + 1,x2,x3,x4,x11,x12,x14,x55 => if x55 = true then ((stack_Remove.f k x12 x3).bind fun bt367 => ((stack_Remove.f k x14 x2).bind fun bt371 => (if bt367.2 = 0 then (if bt371.2 = 0 then ((cofferlaw14_alike.f k bt367.1 bt371.1).bind fun t375 => (if t375 = true then ((cofferlaw14_right.f k bt367.1).bind fun t376 => (if t376 = true then (cofferlaw14_StackParts.j1 k x4 x11) else (none))) else (none))) else (none)) else (none)))) else (cofferlaw14_StackParts.j1 k x4 x11)
def cofferlaw14_StackParts.j1 : Nat → Int → List (S25) → Option (Bool)
 | 0,_,_ => none
 | k + 1,x4,x11 => (stack_Since.f k x11 x4).bind fun t377 => (if (wrap64 ((x11.length : Int) - (t377.length : Int))) < 0 then (cofferlaw14_StackParts.j2 k x4 x11 t377 (wrap64 ((x11.length : Int) - (t377.length : Int))) true) else ((cofferlaw14_right.f k t377).bind fun t380 => (if t380 = true then (if 0 ≤ (wrap64 ((x11.length : Int) - (t377.length : Int))) then (if (wrap64 ((x11.length : Int) - (t377.length : Int))) ≤ (x11.length : Int) then ((cofferlaw14_alike.f k (x11.drop ((wrap64 ((x11.length : Int) - (t377.length : Int))) : Int).toNat) t377).bind fun t385 => (cofferlaw14_StackParts.j2 k x4 x11 t377 (wrap64 ((x11.length : Int) - (t377.length : Int))) (!t385))) else (none)) else (none)) else (cofferlaw14_StackParts.j2 k x4 x11 t377 (wrap64 ((x11.length : Int) - (t377.length : Int))) true))))
def cofferlaw14_StackParts.j2 : Nat → Int → List (S25) → List (S25) → Int → Bool → Option (Bool)
 | 0,_,_,_,_,_ => none
 | k + 1,x4,x11,x20,x21,x107 => if x107 = true then (none) else (cofferlaw14_StackParts.l0 k x4 x11 x20 x21 0)
def cofferlaw14_StackParts.l0 : Nat → Int → List (S25) → List (S25) → Int → Int → Option (Bool)
 | 0,_,_,_,_,_ => none
 | k + 1,x4,x11,x20,x21,x22 => if x22 < x21 then (if 0 ≤ x22 then (if x22 < (x11.length : Int) then (if ((rd_T25 x11 x22).f1) ≥ x4 then (none) else (cofferlaw14_StackParts.l0 k x4 x11 x20 x21 (wrap64 (x22 + 1)))) else (none)) else (none)) else (cofferlaw14_StackParts.l1 k x4 x11 x20 x21)
def cofferlaw14_StackParts.l1 : Nat → Int → List (S25) → List (S25) → Int → Option (Bool)
 | 0,_,_,_,_ => none
 | k + 1,x4,x11,x20,x23 => if x23 < (x11.length : Int) then (if 0 ≤ x23 then (if ((rd_T25 x11 x23).f1) < x4 then (none) else (cofferlaw14_StackParts.l1 k x4 x11 x20 (wrap64 (x23 + 1)))) else (none)) else ((stack_Rows.f x11).bind fun t388 => ((stack_Rows.f x20).bind fun t391 => (if (t388.length : Int) = (x11.length : Int) then (cofferlaw14_StackParts.j5 k x11 t388 t391 ((t391.length : Int) != (x20.length : Int))) else (cofferlaw14_StackParts.j5 k x11 t388 t391 true))))
def cofferlaw14_StackParts.j5 : Nat → List (S25) → List (S43) → List (S43) → Bool → Option (Bool)
 | 0,_,_,_,_ => none
 | k + 1,x11,x24,x25,x149 => if x149 = true then (none) else (cofferlaw14_StackParts.l2 k x11 x24 x25 0)
def cofferlaw14_StackParts.l2 : Nat → List (S25) → List (S43) → List (S43) → Int → Option (Bool)
 | 0,_,_,_,_ => none
 | k + 1,x11,x24,x25,x26 => if x26 < (x24.length : Int) then (if 0 ≤ (wrap64 ((wrap64 ((x11.length : Int) - 1)) - x26)) then (if (wrap64 ((wrap64 ((x11.length : Int) - 1)) - x26)) < (x11.length : Int) then (if 0 ≤ x26 then (if (!((((rd_T43 x24 x26).f0).toList) == (((rd_T25 x11 (wrap64 ((wrap64 ((x11.length : Int) - 1)) - x26))).f0).toList)) || (!(((rd_T43 x24 x26).f1) == ((rd_T25 x11 (wrap64 ((wrap64 ((x11.length : Int) - 1)) - x26))).f1)) || (!(((rd_T43 x24 x26).f2) == ((rd_T25 x11 (wrap64 ((wrap64 ((x11.length : Int) - 1)) - x26))).f2)) || (!(((rd_T43 x24 x26).f3) == (((rd_T25 x11 (wrap64 ((wrap64 ((x11.length : Int) - 1)) - x26))).f3).size : Int)))))) = true then (none) else (if x26 < (x25.length : Int) then (if (!((((rd_T43 x25 x26).f0).toList) == (((rd_T43 x24 x26).f0).toList)) || (!(((rd_T43 x25 x26).f1) == ((rd_T43 x24 x26).f1)) || (!(((rd_T43 x25 x26).f2) == ((rd_T43 x24 x26).f2)) || (!(((rd_T43 x25 x26).f3) == ((rd_T43 x24 x26).f3)))))) = true then (none) else (cofferlaw14_StackParts.l2 k x11 x24 x25 (wrap64 (x26 + 1)))) else (cofferlaw14_StackParts.l2 k x11 x24 x25 (wrap64 (x26 + 1))))) else (none)) else (none)) else (none)) else (some true)
end
def cofferlaw14_StackParts.f (k : Nat) (l0 : List (S25)) (a1 : ByteArray) (a2 : Int) (a3 : Int) (a4 : Int) : Option (Bool):=(cofferlaw14_head.f k).bind fun t355 => (if t355 = true then ((cofferlaw14_made.f k l0 a1).bind fun t356 => ((stack_Remove.f k t356 a2).bind fun bt359 => ((stack_Remove.f k t356 a3).bind fun bt363 => (if bt359.2 = 0 then (if bt363.2 = 0 then (cofferlaw14_StackParts.j0 k a2 a3 a4 t356 bt359.1 bt363.1 (a2 != a3)) else (cofferlaw14_StackParts.j0 k a2 a3 a4 t356 bt359.1 bt363.1 false)) else (cofferlaw14_StackParts.j0 k a2 a3 a4 t356 bt359.1 bt363.1 false))))) else (none))
theorem cofferlaw14_StackParts.mono_l : ∀ k,(∀ y0 y1 y2 y3 y4 y5 y6,LeO (cofferlaw14_StackParts.j0 k y0 y1 y2 y3 y4 y5 y6) (cofferlaw14_StackParts.j0 (k + 1) y0 y1 y2 y3 y4 y5 y6)) ∧ (∀ y0 y1,LeO (cofferlaw14_StackParts.j1 k y0 y1) (cofferlaw14_StackParts.j1 (k + 1) y0 y1)) ∧ (∀ y0 y1 y2 y3 y4,LeO (cofferlaw14_StackParts.j2 k y0 y1 y2 y3 y4) (cofferlaw14_StackParts.j2 (k + 1) y0 y1 y2 y3 y4)) ∧ (∀ y0 y1 y2 y3 y4,LeO (cofferlaw14_StackParts.l0 k y0 y1 y2 y3 y4) (cofferlaw14_StackParts.l0 (k + 1) y0 y1 y2 y3 y4)) ∧ (∀ y0 y1 y2 y3,LeO (cofferlaw14_StackParts.l1 k y0 y1 y2 y3) (cofferlaw14_StackParts.l1 (k + 1) y0 y1 y2 y3)) ∧ (∀ y0 y1 y2 y3,LeO (cofferlaw14_StackParts.j5 k y0 y1 y2 y3) (cofferlaw14_StackParts.j5 (k + 1) y0 y1 y2 y3)) ∧ (∀ y0 y1 y2 y3,LeO (cofferlaw14_StackParts.l2 k y0 y1 y2 y3) (cofferlaw14_StackParts.l2 (k + 1) y0 y1 y2 y3))
 | 0 => ⟨fun _ _ _ _ _ _ _ r h => by simp [cofferlaw14_StackParts.j0] at h,fun _ _ r h => by simp [cofferlaw14_StackParts.j1] at h,fun _ _ _ _ _ r h => by simp [cofferlaw14_StackParts.j2] at h,fun _ _ _ _ _ r h => by simp [cofferlaw14_StackParts.l0] at h,fun _ _ _ _ r h => by simp [cofferlaw14_StackParts.l1] at h,fun _ _ _ _ r h => by simp [cofferlaw14_StackParts.j5] at h,fun _ _ _ _ r h => by simp [cofferlaw14_StackParts.l2] at h⟩
 | k + 1 => by
  obtain ⟨ih0,ih1,ih2,ih3,ih4,ih5,ih6⟩:=cofferlaw14_StackParts.mono_l k
  refine ⟨?_,?_,?_,?_,?_,?_,?_⟩
  ·intro y0 y1 y2 y3 y4 y5 y6
   unfold cofferlaw14_StackParts.j0
   repeat' first
   | (with_reducible exact ih0 _ _ _ _ _ _ _)
   | (with_reducible exact ih1 _ _)
   | (with_reducible exact ih2 _ _ _ _ _)
   | (with_reducible exact ih3 _ _ _ _ _)
   | (with_reducible exact ih4 _ _ _ _)
   | (with_reducible exact ih5 _ _ _ _)
   | (with_reducible exact ih6 _ _ _ _)
   | (with_reducible exact cofferlaw14_alike.mono _ _ _)
   | (with_reducible exact cofferlaw14_head.mono _)
   | (with_reducible exact cofferlaw14_made.mono _ _ _)
   | (with_reducible exact cofferlaw14_right.mono _ _)
   | (with_reducible exact stack_Remove.mono _ _ _)
   | (with_reducible exact stack_Since.mono _ _ _)
   | (with_reducible exact LeO.refl _)
   | (with_reducible exact LeO.none _)
   | (with_reducible refine LeO.ite ?_ ?_)
   | (with_reducible refine LeO.bind ?_ (fun _ => ?_))
   | exact ih0 _ _ _ _ _ _ _
   | exact ih1 _ _
   | exact ih2 _ _ _ _ _
   | exact ih3 _ _ _ _ _
   | exact ih4 _ _ _ _
   | exact ih5 _ _ _ _
   | exact ih6 _ _ _ _
   | exact cofferlaw14_alike.mono _ _ _
   | exact cofferlaw14_head.mono _
   | exact cofferlaw14_made.mono _ _ _
   | exact cofferlaw14_right.mono _ _
   | exact stack_Remove.mono _ _ _
   | exact stack_Since.mono _ _ _
   | exact LeO.none _
   | refine LeO.ite ?_ ?_
   | refine LeO.bind ?_ (fun _ => ?_)
  ·intro y0 y1
   unfold cofferlaw14_StackParts.j1
   repeat' first
   | (with_reducible exact ih0 _ _ _ _ _ _ _)
   | (with_reducible exact ih1 _ _)
   | (with_reducible exact ih2 _ _ _ _ _)
   | (with_reducible exact ih3 _ _ _ _ _)
   | (with_reducible exact ih4 _ _ _ _)
   | (with_reducible exact ih5 _ _ _ _)
   | (with_reducible exact ih6 _ _ _ _)
   | (with_reducible exact cofferlaw14_alike.mono _ _ _)
   | (with_reducible exact cofferlaw14_head.mono _)
   | (with_reducible exact cofferlaw14_made.mono _ _ _)
   | (with_reducible exact cofferlaw14_right.mono _ _)
   | (with_reducible exact stack_Remove.mono _ _ _)
   | (with_reducible exact stack_Since.mono _ _ _)
   | (with_reducible exact LeO.refl _)
   | (with_reducible exact LeO.none _)
   | (with_reducible refine LeO.ite ?_ ?_)
   | (with_reducible refine LeO.bind ?_ (fun _ => ?_))
   | exact ih0 _ _ _ _ _ _ _
   | exact ih1 _ _
   | exact ih2 _ _ _ _ _
   | exact ih3 _ _ _ _ _
   | exact ih4 _ _ _ _
   | exact ih5 _ _ _ _
   | exact ih6 _ _ _ _
   | exact cofferlaw14_alike.mono _ _ _
   | exact cofferlaw14_head.mono _
   | exact cofferlaw14_made.mono _ _ _
   | exact cofferlaw14_right.mono _ _
   | exact stack_Remove.mono _ _ _
   | exact stack_Since.mono _ _ _
   | exact LeO.none _
   | refine LeO.ite ?_ ?_
   | refine LeO.bind ?_ (fun _ => ?_)
  ·intro y0 y1 y2 y3 y4
   unfold cofferlaw14_StackParts.j2
   repeat' first
   | (with_reducible exact ih0 _ _ _ _ _ _ _)
   | (with_reducible exact ih1 _ _)
   | (with_reducible exact ih2 _ _ _ _ _)
   | (with_reducible exact ih3 _ _ _ _ _)
   | (with_reducible exact ih4 _ _ _ _)
   | (with_reducible exact ih5 _ _ _ _)
   | (with_reducible exact ih6 _ _ _ _)
   | (with_reducible exact cofferlaw14_alike.mono _ _ _)
   | (with_reducible exact cofferlaw14_head.mono _)
   | (with_reducible exact cofferlaw14_made.mono _ _ _)
   | (with_reducible exact cofferlaw14_right.mono _ _)
   | (with_reducible exact stack_Remove.mono _ _ _)
   | (with_reducible exact stack_Since.mono _ _ _)
   | (with_reducible exact LeO.refl _)
   | (with_reducible exact LeO.none _)
   | (with_reducible refine LeO.ite ?_ ?_)
   | (with_reducible refine LeO.bind ?_ (fun _ => ?_))
   | exact ih0 _ _ _ _ _ _ _
   | exact ih1 _ _
   | exact ih2 _ _ _ _ _
   | exact ih3 _ _ _ _ _
   | exact ih4 _ _ _ _
   | exact ih5 _ _ _ _
   | exact ih6 _ _ _ _
   | exact cofferlaw14_alike.mono _ _ _
   | exact cofferlaw14_head.mono _
   | exact cofferlaw14_made.mono _ _ _
   | exact cofferlaw14_right.mono _ _
   | exact stack_Remove.mono _ _ _
   | exact stack_Since.mono _ _ _
   | exact LeO.none _
   | refine LeO.ite ?_ ?_
   | refine LeO.bind ?_ (fun _ => ?_)
  ·intro y0 y1 y2 y3 y4
   unfold cofferlaw14_StackParts.l0
   repeat' first
   | (with_reducible exact ih0 _ _ _ _ _ _ _)
   | (with_reducible exact ih1 _ _)
   | (with_reducible exact ih2 _ _ _ _ _)
   | (with_reducible exact ih3 _ _ _ _ _)
   | (with_reducible exact ih4 _ _ _ _)
   | (with_reducible exact ih5 _ _ _ _)
   | (with_reducible exact ih6 _ _ _ _)
   | (with_reducible exact cofferlaw14_alike.mono _ _ _)
   | (with_reducible exact cofferlaw14_head.mono _)
   | (with_reducible exact cofferlaw14_made.mono _ _ _)
   | (with_reducible exact cofferlaw14_right.mono _ _)
   | (with_reducible exact stack_Remove.mono _ _ _)
   | (with_reducible exact stack_Since.mono _ _ _)
   | (with_reducible exact LeO.refl _)
   | (with_reducible exact LeO.none _)
   | (with_reducible refine LeO.ite ?_ ?_)
   | (with_reducible refine LeO.bind ?_ (fun _ => ?_))
   | exact ih0 _ _ _ _ _ _ _
   | exact ih1 _ _
   | exact ih2 _ _ _ _ _
   | exact ih3 _ _ _ _ _
   | exact ih4 _ _ _ _
   | exact ih5 _ _ _ _
   | exact ih6 _ _ _ _
   | exact cofferlaw14_alike.mono _ _ _
   | exact cofferlaw14_head.mono _
   | exact cofferlaw14_made.mono _ _ _
   | exact cofferlaw14_right.mono _ _
   | exact stack_Remove.mono _ _ _
   | exact stack_Since.mono _ _ _
   | exact LeO.none _
   | refine LeO.ite ?_ ?_
   | refine LeO.bind ?_ (fun _ => ?_)
  ·intro y0 y1 y2 y3
   unfold cofferlaw14_StackParts.l1
   repeat' first
   | (with_reducible exact ih0 _ _ _ _ _ _ _)
   | (with_reducible exact ih1 _ _)
   | (with_reducible exact ih2 _ _ _ _ _)
   | (with_reducible exact ih3 _ _ _ _ _)
   | (with_reducible exact ih4 _ _ _ _)
   | (with_reducible exact ih5 _ _ _ _)
   | (with_reducible exact ih6 _ _ _ _)
   | (with_reducible exact cofferlaw14_alike.mono _ _ _)
   | (with_reducible exact cofferlaw14_head.mono _)
   | (with_reducible exact cofferlaw14_made.mono _ _ _)
   | (with_reducible exact cofferlaw14_right.mono _ _)
   | (with_reducible exact stack_Remove.mono _ _ _)
   | (with_reducible exact stack_Since.mono _ _ _)
   | (with_reducible exact LeO.refl _)
   | (with_reducible exact LeO.none _)
   | (with_reducible refine LeO.ite ?_ ?_)
   | (with_reducible refine LeO.bind ?_ (fun _ => ?_))
   | exact ih0 _ _ _ _ _ _ _
   | exact ih1 _ _
   | exact ih2 _ _ _ _ _
   | exact ih3 _ _ _ _ _
   | exact ih4 _ _ _ _
   | exact ih5 _ _ _ _
   | exact ih6 _ _ _ _
   | exact cofferlaw14_alike.mono _ _ _
   | exact cofferlaw14_head.mono _
   | exact cofferlaw14_made.mono _ _ _
   | exact cofferlaw14_right.mono _ _
   | exact stack_Remove.mono _ _ _
   | exact stack_Since.mono _ _ _
   | exact LeO.none _
   | refine LeO.ite ?_ ?_
   | refine LeO.bind ?_ (fun _ => ?_)
  ·intro y0 y1 y2 y3
   unfold cofferlaw14_StackParts.j5
   repeat' first
   | (with_reducible exact ih0 _ _ _ _ _ _ _)
   | (with_reducible exact ih1 _ _)
   | (with_reducible exact ih2 _ _ _ _ _)
   | (with_reducible exact ih3 _ _ _ _ _)
   | (with_reducible exact ih4 _ _ _ _)
   | (with_reducible exact ih5 _ _ _ _)
   | (with_reducible exact ih6 _ _ _ _)
   | (with_reducible exact cofferlaw14_alike.mono _ _ _)
   | (with_reducible exact cofferlaw14_head.mono _)
   | (with_reducible exact cofferlaw14_made.mono _ _ _)
   | (with_reducible exact cofferlaw14_right.mono _ _)
   | (with_reducible exact stack_Remove.mono _ _ _)
   | (with_reducible exact stack_Since.mono _ _ _)
   | (with_reducible exact LeO.refl _)
   | (with_reducible exact LeO.none _)
   | (with_reducible refine LeO.ite ?_ ?_)
   | (with_reducible refine LeO.bind ?_ (fun _ => ?_))
   | exact ih0 _ _ _ _ _ _ _
   | exact ih1 _ _
   | exact ih2 _ _ _ _ _
   | exact ih3 _ _ _ _ _
   | exact ih4 _ _ _ _
   | exact ih5 _ _ _ _
   | exact ih6 _ _ _ _
   | exact cofferlaw14_alike.mono _ _ _
   | exact cofferlaw14_head.mono _
   | exact cofferlaw14_made.mono _ _ _
   | exact cofferlaw14_right.mono _ _
   | exact stack_Remove.mono _ _ _
   | exact stack_Since.mono _ _ _
   | exact LeO.none _
   | refine LeO.ite ?_ ?_
   | refine LeO.bind ?_ (fun _ => ?_)
  ·intro y0 y1 y2 y3
   unfold cofferlaw14_StackParts.l2
   repeat' first
   | (with_reducible exact ih0 _ _ _ _ _ _ _)
   | (with_reducible exact ih1 _ _)
   | (with_reducible exact ih2 _ _ _ _ _)
   | (with_reducible exact ih3 _ _ _ _ _)
   | (with_reducible exact ih4 _ _ _ _)
   | (with_reducible exact ih5 _ _ _ _)
   | (with_reducible exact ih6 _ _ _ _)
   | (with_reducible exact cofferlaw14_alike.mono _ _ _)
   | (with_reducible exact cofferlaw14_head.mono _)
   | (with_reducible exact cofferlaw14_made.mono _ _ _)
   | (with_reducible exact cofferlaw14_right.mono _ _)
   | (with_reducible exact stack_Remove.mono _ _ _)
   | (with_reducible exact stack_Since.mono _ _ _)
   | (with_reducible exact LeO.refl _)
   | (with_reducible exact LeO.none _)
   | (with_reducible refine LeO.ite ?_ ?_)
   | (with_reducible refine LeO.bind ?_ (fun _ => ?_))
   | exact ih0 _ _ _ _ _ _ _
   | exact ih1 _ _
   | exact ih2 _ _ _ _ _
   | exact ih3 _ _ _ _ _
   | exact ih4 _ _ _ _
   | exact ih5 _ _ _ _
   | exact ih6 _ _ _ _
   | exact cofferlaw14_alike.mono _ _ _
   | exact cofferlaw14_head.mono _
   | exact cofferlaw14_made.mono _ _ _
   | exact cofferlaw14_right.mono _ _
   | exact stack_Remove.mono _ _ _
   | exact stack_Since.mono _ _ _
   | exact LeO.none _
   | refine LeO.ite ?_ ?_
   | refine LeO.bind ?_ (fun _ => ?_)
theorem cofferlaw14_StackParts.mono : ∀ a0 a1 a2 a3 a4 k,LeO (cofferlaw14_StackParts.f k a0 a1 a2 a3 a4) (cofferlaw14_StackParts.f (k + 1) a0 a1 a2 a3 a4):=by
 intro a0 a1 a2 a3 a4 k
 obtain ⟨ih0,ih1,ih2,ih3,ih4,ih5,ih6⟩:=cofferlaw14_StackParts.mono_l k
 unfold cofferlaw14_StackParts.f
 repeat' first
  | (with_reducible exact ih0 _ _ _ _ _ _ _)
  | (with_reducible exact ih1 _ _)
  | (with_reducible exact ih2 _ _ _ _ _)
  | (with_reducible exact ih3 _ _ _ _ _)
  | (with_reducible exact ih4 _ _ _ _)
  | (with_reducible exact ih5 _ _ _ _)
  | (with_reducible exact ih6 _ _ _ _)
  | (with_reducible exact cofferlaw14_alike.mono _ _ _)
  | (with_reducible exact cofferlaw14_head.mono _)
  | (with_reducible exact cofferlaw14_made.mono _ _ _)
  | (with_reducible exact cofferlaw14_right.mono _ _)
  | (with_reducible exact stack_Remove.mono _ _ _)
  | (with_reducible exact stack_Since.mono _ _ _)
  | (with_reducible exact LeO.refl _)
  | (with_reducible exact LeO.none _)
  | (with_reducible refine LeO.ite ?_ ?_)
  | (with_reducible refine LeO.bind ?_ (fun _ => ?_))
  | exact ih0 _ _ _ _ _ _ _
  | exact ih1 _ _
  | exact ih2 _ _ _ _ _
  | exact ih3 _ _ _ _ _
  | exact ih4 _ _ _ _
  | exact ih5 _ _ _ _
  | exact ih6 _ _ _ _
  | exact cofferlaw14_alike.mono _ _ _
  | exact cofferlaw14_head.mono _
  | exact cofferlaw14_made.mono _ _ _
  | exact cofferlaw14_right.mono _ _
  | exact stack_Remove.mono _ _ _
  | exact stack_Since.mono _ _ _
  | exact LeO.none _
  | refine LeO.ite ?_ ?_
  | refine LeO.bind ?_ (fun _ => ?_)
theorem cofferlaw14_StackParts.j2_true (k : Nat) (y0) (y1) (y2) (y3) : cofferlaw14_StackParts.j2 k y0 y1 y2 y3 true = none:=by cases k <;> simp [cofferlaw14_StackParts.j2]
theorem cofferlaw14_StackParts.j5_true (k : Nat) (y0) (y1) (y2) : cofferlaw14_StackParts.j5 k y0 y1 y2 true = none:=by cases k <;> simp [cofferlaw14_StackParts.j5]
set_option maxHeartbeats 8000000 in
set_option maxRecDepth 100000 in
theorem cofferlaw14_StackParts.calls (k : Nat) (A0 : Option Addr) (c0 : Nat) (l0 : List (S25)) (a1 : ByteArray) (a2 : Int) (a3 : Int) (a4 : Int) (r : Bool) (w : World) (hr0 : Kd.C k25 w A0 l0.length l0) (hc0 : l0.length ≤ c0) (h : cofferlaw14_StackParts.f k l0 a1 a2 a3 a4 = some r) :
 Calls Try.prog 4 #[.slice A0 l0.length c0,.string a1,.int .i64 a2,.int .i64 a3,.int .i64 a4] w fun e w' => e = .returned (.bool r) ∧ Below w.heap.size w w':=by
 have hu25:=Try.underlying25
 have hu43:=Try.underlying43
 have HR0:=Aside0.mk hr0
 have HC0:=Aside0.mk hc0
 clear hr0 hc0
 have HB:=Aside0.mk (Below.refl w.heap.size w)
 have H : ((cofferlaw14_head.f k).bind fun t355 => (if t355 = true then ((cofferlaw14_made.f k l0 a1).bind fun t356 => ((stack_Remove.f k t356 a2).bind fun bt359 => ((stack_Remove.f k t356 a3).bind fun bt363 => (if bt359.2 = 0 then (if bt363.2 = 0 then (cofferlaw14_StackParts.j0 k a2 a3 a4 t356 bt359.1 bt363.1 (a2 != a3)) else (cofferlaw14_StackParts.j0 k a2 a3 a4 t356 bt359.1 bt363.1 false)) else (cofferlaw14_StackParts.j0 k a2 a3 a4 t356 bt359.1 bt363.1 false))))) else (none))) = some r:=h
 clear h
 replace H:=Option.bind_eq_some_iff.mp H
 obtain ⟨t355,A60,H⟩:=H
 replace H : (if t355 = true then ((cofferlaw14_made.f k l0 a1).bind fun t356 => ((stack_Remove.f k t356 a2).bind fun bt359 => ((stack_Remove.f k t356 a3).bind fun bt363 => (if bt359.2 = 0 then (if bt363.2 = 0 then (cofferlaw14_StackParts.j0 k a2 a3 a4 t356 bt359.1 bt363.1 (a2 != a3)) else (cofferlaw14_StackParts.j0 k a2 a3 a4 t356 bt359.1 bt363.1 false)) else (cofferlaw14_StackParts.j0 k a2 a3 a4 t356 bt359.1 bt363.1 false))))) else (none)) = some r:=H
 have A6:=Aside0.mk A60
 clear A60
 by_cases c7 : t355 = true
 ·subst c7
  have H1 : ((cofferlaw14_made.f k l0 a1).bind fun t356 => ((stack_Remove.f k t356 a2).bind fun bt359 => ((stack_Remove.f k t356 a3).bind fun bt363 => (if bt359.2 = 0 then (if bt363.2 = 0 then (cofferlaw14_StackParts.j0 k a2 a3 a4 t356 bt359.1 bt363.1 (a2 != a3)) else (cofferlaw14_StackParts.j0 k a2 a3 a4 t356 bt359.1 bt363.1 false)) else (cofferlaw14_StackParts.j0 k a2 a3 a4 t356 bt359.1 bt363.1 false))))) = some r:=by rw [if_pos rfl] at H;exact H
  clear H
  have H:=H1
  clear H1
  replace H:=Option.bind_eq_some_iff.mp H
  obtain ⟨t356,A80,H⟩:=H
  replace H : ((stack_Remove.f k t356 a2).bind fun bt359 => ((stack_Remove.f k t356 a3).bind fun bt363 => (if bt359.2 = 0 then (if bt363.2 = 0 then (cofferlaw14_StackParts.j0 k a2 a3 a4 t356 bt359.1 bt363.1 (a2 != a3)) else (cofferlaw14_StackParts.j0 k a2 a3 a4 t356 bt359.1 bt363.1 false)) else (cofferlaw14_StackParts.j0 k a2 a3 a4 t356 bt359.1 bt363.1 false)))) = some r:=H
  have A8:=Aside0.mk A80
  clear A80
  replace H:=Option.bind_eq_some_iff.mp H
  obtain ⟨⟨t359,t360⟩,A90,H⟩:=H
  replace H : ((stack_Remove.f k t356 a3).bind fun bt363 => (if t360 = 0 then (if bt363.2 = 0 then (cofferlaw14_StackParts.j0 k a2 a3 a4 t356 t359 bt363.1 (a2 != a3)) else (cofferlaw14_StackParts.j0 k a2 a3 a4 t356 t359 bt363.1 false)) else (cofferlaw14_StackParts.j0 k a2 a3 a4 t356 t359 bt363.1 false))) = some r:=H
  have A9:=Aside0.mk A90
  clear A90
  replace H:=Option.bind_eq_some_iff.mp H
  obtain ⟨⟨t363,t364⟩,A100,H⟩:=H
  replace H : (if t360 = 0 then (if t364 = 0 then (cofferlaw14_StackParts.j0 k a2 a3 a4 t356 t359 t363 (a2 != a3)) else (cofferlaw14_StackParts.j0 k a2 a3 a4 t356 t359 t363 false)) else (cofferlaw14_StackParts.j0 k a2 a3 a4 t356 t359 t363 false)) = some r:=H
  have A10:=Aside0.mk A100
  clear A100
  have HC11:=Aside0.mk H
  clear H
  go_enter Try.func4,Try.ntmps4
  go_upto_region 6 with (first|(go_at_call 8;(with_reducible refine (cofferlaw14_head.calls k  true _ A6.out).mono ?_);rintro e w12 ⟨rfl,hb⟩;have n0_:=Aside0.mk (below_step (by repeat (first|(with_reducible first|exact HB.out|apply below_alloc|apply pw_below_drewN|apply below_drew1)|exact HB.out)) hb);clear HB;have HB:=n0_;clear n0_;(try clear hb);(try clear hb2);(try clear hk);(try clear hi))|(go_at_call 17;(with_reducible refine (cofferlaw14_made.calls k _ _ l0 a1 t356 _ ?side1 ?side2 A8.out).mono ?_);(case side1 => repeat (first|exact (Kd.C_below HR0.out HB.out)|(with_reducible refine Kd.C_alloc ?_ _)|(with_reducible refine Kd.C_drewN ?_ _)|(with_reducible refine Kd.C_drew ?_)));(case side2 => exact HC0.out);rintro e w13 ⟨v357,rfl,ho0,hb⟩;have n0_:=Aside0.mk (Kd.S_lower ho0 (below_size (by repeat (first|(with_reducible first|exact HB.out|apply below_alloc|apply pw_below_drewN|apply below_drew1)|exact HB.out))));have n1_:=Aside0.mk (below_step (by repeat (first|(with_reducible first|exact HB.out|apply below_alloc|apply pw_below_drewN|apply below_drew1)|exact HB.out)) hb);clear HB;have HO358:=n0_;have HB:=n1_;clear n0_ n1_;(try clear hb);(try clear hb2);(try clear hk);(try clear hi);(try clear ho0);obtain ⟨Ao14,co14,eo14⟩:=Kd.S_slice HO358.out;subst eo14)|(go_at_call 18;(with_reducible refine (stack_Remove.calls k _ _ t356 a2 t359 t360 _ ?side1 ?side2 A9.out).mono ?_);(case side1 => repeat (first|exact (Kd.S_reads' HO358.out).2.2|(with_reducible refine Kd.C_alloc ?_ _)|(with_reducible refine Kd.C_drewN ?_ _)|(with_reducible refine Kd.C_drew ?_)));(case side2 => exact (Kd.S_reads' HO358.out).2.1);rintro e w15 ⟨v361,rfl,ho0,hb⟩;have n0_:=Aside0.mk (Kd.S_elder' (by (with_reducible repeat (first|apply Kd.S_alloc|apply Kd.S_drewN|apply Kd.S_drew));exact HO358.out) (Kd.S_base ho0) hb);have n1_:=Aside0.mk (Kd.S_lower (Kd.S_new' ho0 (Kd.S_lt (by (with_reducible repeat (first|apply Kd.S_alloc|apply Kd.S_drewN|apply Kd.S_drew));exact HO358.out))) (below_size (by repeat (first|(with_reducible first|exact HB.out|apply below_alloc|apply pw_below_drewN|apply below_drew1)|exact HB.out))));have n2_:=Aside0.mk (below_step (by repeat (first|(with_reducible first|exact HB.out|apply below_alloc|apply pw_below_drewN|apply below_drew1)|exact HB.out)) hb);clear HO358;clear HB;have HO358:=n0_;have HO362:=n1_;have HB:=n2_;clear n0_ n1_ n2_;(try clear hb);(try clear hb2);(try clear hk);(try clear hi);(try clear ho0))|(go_at_call 18;(with_reducible refine (stack_Remove.calls k _ _ t356 a3 t363 t364 _ ?side1 ?side2 A10.out).mono ?_);(case side1 => repeat (first|exact (Kd.S_reads' HO358.out).2.2|(with_reducible refine Kd.C_alloc ?_ _)|(with_reducible refine Kd.C_drewN ?_ _)|(with_reducible refine Kd.C_drew ?_)));(case side2 => exact (Kd.S_reads' HO358.out).2.1);rintro e w16 ⟨v365,rfl,ho0,hb⟩;have n0_:=Aside0.mk (Kd.S_elder' (by (with_reducible repeat (first|apply Kd.S_alloc|apply Kd.S_drewN|apply Kd.S_drew));exact HO358.out) (Kd.S_base ho0) hb);have n1_:=Aside0.mk (Kd.S_elder' (by (with_reducible repeat (first|apply Kd.S_alloc|apply Kd.S_drewN|apply Kd.S_drew));exact HO362.out) (Kd.S_base ho0) hb);have n2_:=Aside0.mk (Kd.S_lower (Kd.S_new' (Kd.S_new' ho0 (Kd.S_lt (by (with_reducible repeat (first|apply Kd.S_alloc|apply Kd.S_drewN|apply Kd.S_drew));exact HO358.out))) (Kd.S_lt (by (with_reducible repeat (first|apply Kd.S_alloc|apply Kd.S_drewN|apply Kd.S_drew));exact HO362.out))) (below_size (by repeat (first|(with_reducible first|exact HB.out|apply below_alloc|apply pw_below_drewN|apply below_drew1)|exact HB.out))));have n3_:=Aside0.mk (below_step (by repeat (first|(with_reducible first|exact HB.out|apply below_alloc|apply pw_below_drewN|apply below_drew1)|exact HB.out)) hb);clear HO358;clear HO362;clear HB;have HO358:=n0_;have HO362:=n1_;have HO366:=n2_;have HB:=n3_;clear n0_ n1_ n2_ n3_;(try clear hb);(try clear hb2);(try clear hk);(try clear hi);(try clear ho0)))
  repeat (go_quiet (first|(go_at_call 8;(with_reducible refine (cofferlaw14_head.calls k  true _ A6.out).mono ?_);rintro e w12 ⟨rfl,hb⟩;have n0_:=Aside0.mk (below_step (by repeat (first|(with_reducible first|exact HB.out|apply below_alloc|apply pw_below_drewN|apply below_drew1)|exact HB.out)) hb);clear HB;have HB:=n0_;clear n0_;(try clear hb);(try clear hb2);(try clear hk);(try clear hi))|(go_at_call 17;(with_reducible refine (cofferlaw14_made.calls k _ _ l0 a1 t356 _ ?side1 ?side2 A8.out).mono ?_);(case side1 => repeat (first|exact (Kd.C_below HR0.out HB.out)|(with_reducible refine Kd.C_alloc ?_ _)|(with_reducible refine Kd.C_drewN ?_ _)|(with_reducible refine Kd.C_drew ?_)));(case side2 => exact HC0.out);rintro e w13 ⟨v357,rfl,ho0,hb⟩;have n0_:=Aside0.mk (Kd.S_lower ho0 (below_size (by repeat (first|(with_reducible first|exact HB.out|apply below_alloc|apply pw_below_drewN|apply below_drew1)|exact HB.out))));have n1_:=Aside0.mk (below_step (by repeat (first|(with_reducible first|exact HB.out|apply below_alloc|apply pw_below_drewN|apply below_drew1)|exact HB.out)) hb);clear HB;have HO358:=n0_;have HB:=n1_;clear n0_ n1_;(try clear hb);(try clear hb2);(try clear hk);(try clear hi);(try clear ho0);obtain ⟨Ao14,co14,eo14⟩:=Kd.S_slice HO358.out;subst eo14)|(go_at_call 18;(with_reducible refine (stack_Remove.calls k _ _ t356 a2 t359 t360 _ ?side1 ?side2 A9.out).mono ?_);(case side1 => repeat (first|exact (Kd.S_reads' HO358.out).2.2|(with_reducible refine Kd.C_alloc ?_ _)|(with_reducible refine Kd.C_drewN ?_ _)|(with_reducible refine Kd.C_drew ?_)));(case side2 => exact (Kd.S_reads' HO358.out).2.1);rintro e w15 ⟨v361,rfl,ho0,hb⟩;have n0_:=Aside0.mk (Kd.S_elder' (by (with_reducible repeat (first|apply Kd.S_alloc|apply Kd.S_drewN|apply Kd.S_drew));exact HO358.out) (Kd.S_base ho0) hb);have n1_:=Aside0.mk (Kd.S_lower (Kd.S_new' ho0 (Kd.S_lt (by (with_reducible repeat (first|apply Kd.S_alloc|apply Kd.S_drewN|apply Kd.S_drew));exact HO358.out))) (below_size (by repeat (first|(with_reducible first|exact HB.out|apply below_alloc|apply pw_below_drewN|apply below_drew1)|exact HB.out))));have n2_:=Aside0.mk (below_step (by repeat (first|(with_reducible first|exact HB.out|apply below_alloc|apply pw_below_drewN|apply below_drew1)|exact HB.out)) hb);clear HO358;clear HB;have HO358:=n0_;have HO362:=n1_;have HB:=n2_;clear n0_ n1_ n2_;(try clear hb);(try clear hb2);(try clear hk);(try clear hi);(try clear ho0))|(go_at_call 18;(with_reducible refine (stack_Remove.calls k _ _ t356 a3 t363 t364 _ ?side1 ?side2 A10.out).mono ?_);(case side1 => repeat (first|exact (Kd.S_reads' HO358.out).2.2|(with_reducible refine Kd.C_alloc ?_ _)|(with_reducible refine Kd.C_drewN ?_ _)|(with_reducible refine Kd.C_drew ?_)));(case side2 => exact (Kd.S_reads' HO358.out).2.1);rintro e w16 ⟨v365,rfl,ho0,hb⟩;have n0_:=Aside0.mk (Kd.S_elder' (by (with_reducible repeat (first|apply Kd.S_alloc|apply Kd.S_drewN|apply Kd.S_drew));exact HO358.out) (Kd.S_base ho0) hb);have n1_:=Aside0.mk (Kd.S_elder' (by (with_reducible repeat (first|apply Kd.S_alloc|apply Kd.S_drewN|apply Kd.S_drew));exact HO362.out) (Kd.S_base ho0) hb);have n2_:=Aside0.mk (Kd.S_lower (Kd.S_new' (Kd.S_new' ho0 (Kd.S_lt (by (with_reducible repeat (first|apply Kd.S_alloc|apply Kd.S_drewN|apply Kd.S_drew));exact HO358.out))) (Kd.S_lt (by (with_reducible repeat (first|apply Kd.S_alloc|apply Kd.S_drewN|apply Kd.S_drew));exact HO362.out))) (below_size (by repeat (first|(with_reducible first|exact HB.out|apply below_alloc|apply pw_below_drewN|apply below_drew1)|exact HB.out))));have n3_:=Aside0.mk (below_step (by repeat (first|(with_reducible first|exact HB.out|apply below_alloc|apply pw_below_drewN|apply below_drew1)|exact HB.out)) hb);clear HO358;clear HO362;clear HB;have HO358:=n0_;have HO362:=n1_;have HO366:=n2_;have HB:=n3_;clear n0_ n1_ n2_ n3_;(try clear hb);(try clear hb2);(try clear hk);(try clear hi);(try clear ho0)));go_upto_region 6 with (first|(go_at_call 8;(with_reducible refine (cofferlaw14_head.calls k  true _ A6.out).mono ?_);rintro e w12 ⟨rfl,hb⟩;have n0_:=Aside0.mk (below_step (by repeat (first|(with_reducible first|exact HB.out|apply below_alloc|apply pw_below_drewN|apply below_drew1)|exact HB.out)) hb);clear HB;have HB:=n0_;clear n0_;(try clear hb);(try clear hb2);(try clear hk);(try clear hi))|(go_at_call 17;(with_reducible refine (cofferlaw14_made.calls k _ _ l0 a1 t356 _ ?side1 ?side2 A8.out).mono ?_);(case side1 => repeat (first|exact (Kd.C_below HR0.out HB.out)|(with_reducible refine Kd.C_alloc ?_ _)|(with_reducible refine Kd.C_drewN ?_ _)|(with_reducible refine Kd.C_drew ?_)));(case side2 => exact HC0.out);rintro e w13 ⟨v357,rfl,ho0,hb⟩;have n0_:=Aside0.mk (Kd.S_lower ho0 (below_size (by repeat (first|(with_reducible first|exact HB.out|apply below_alloc|apply pw_below_drewN|apply below_drew1)|exact HB.out))));have n1_:=Aside0.mk (below_step (by repeat (first|(with_reducible first|exact HB.out|apply below_alloc|apply pw_below_drewN|apply below_drew1)|exact HB.out)) hb);clear HB;have HO358:=n0_;have HB:=n1_;clear n0_ n1_;(try clear hb);(try clear hb2);(try clear hk);(try clear hi);(try clear ho0);obtain ⟨Ao14,co14,eo14⟩:=Kd.S_slice HO358.out;subst eo14)|(go_at_call 18;(with_reducible refine (stack_Remove.calls k _ _ t356 a2 t359 t360 _ ?side1 ?side2 A9.out).mono ?_);(case side1 => repeat (first|exact (Kd.S_reads' HO358.out).2.2|(with_reducible refine Kd.C_alloc ?_ _)|(with_reducible refine Kd.C_drewN ?_ _)|(with_reducible refine Kd.C_drew ?_)));(case side2 => exact (Kd.S_reads' HO358.out).2.1);rintro e w15 ⟨v361,rfl,ho0,hb⟩;have n0_:=Aside0.mk (Kd.S_elder' (by (with_reducible repeat (first|apply Kd.S_alloc|apply Kd.S_drewN|apply Kd.S_drew));exact HO358.out) (Kd.S_base ho0) hb);have n1_:=Aside0.mk (Kd.S_lower (Kd.S_new' ho0 (Kd.S_lt (by (with_reducible repeat (first|apply Kd.S_alloc|apply Kd.S_drewN|apply Kd.S_drew));exact HO358.out))) (below_size (by repeat (first|(with_reducible first|exact HB.out|apply below_alloc|apply pw_below_drewN|apply below_drew1)|exact HB.out))));have n2_:=Aside0.mk (below_step (by repeat (first|(with_reducible first|exact HB.out|apply below_alloc|apply pw_below_drewN|apply below_drew1)|exact HB.out)) hb);clear HO358;clear HB;have HO358:=n0_;have HO362:=n1_;have HB:=n2_;clear n0_ n1_ n2_;(try clear hb);(try clear hb2);(try clear hk);(try clear hi);(try clear ho0))|(go_at_call 18;(with_reducible refine (stack_Remove.calls k _ _ t356 a3 t363 t364 _ ?side1 ?side2 A10.out).mono ?_);(case side1 => repeat (first|exact (Kd.S_reads' HO358.out).2.2|(with_reducible refine Kd.C_alloc ?_ _)|(with_reducible refine Kd.C_drewN ?_ _)|(with_reducible refine Kd.C_drew ?_)));(case side2 => exact (Kd.S_reads' HO358.out).2.1);rintro e w16 ⟨v365,rfl,ho0,hb⟩;have n0_:=Aside0.mk (Kd.S_elder' (by (with_reducible repeat (first|apply Kd.S_alloc|apply Kd.S_drewN|apply Kd.S_drew));exact HO358.out) (Kd.S_base ho0) hb);have n1_:=Aside0.mk (Kd.S_elder' (by (with_reducible repeat (first|apply Kd.S_alloc|apply Kd.S_drewN|apply Kd.S_drew));exact HO362.out) (Kd.S_base ho0) hb);have n2_:=Aside0.mk (Kd.S_lower (Kd.S_new' (Kd.S_new' ho0 (Kd.S_lt (by (with_reducible repeat (first|apply Kd.S_alloc|apply Kd.S_drewN|apply Kd.S_drew));exact HO358.out))) (Kd.S_lt (by (with_reducible repeat (first|apply Kd.S_alloc|apply Kd.S_drewN|apply Kd.S_drew));exact HO362.out))) (below_size (by repeat (first|(with_reducible first|exact HB.out|apply below_alloc|apply pw_below_drewN|apply below_drew1)|exact HB.out))));have n3_:=Aside0.mk (below_step (by repeat (first|(with_reducible first|exact HB.out|apply below_alloc|apply pw_below_drewN|apply below_drew1)|exact HB.out)) hb);clear HO358;clear HO362;clear HB;have HO358:=n0_;have HO362:=n1_;have HO366:=n2_;have HB:=n3_;clear n0_ n1_ n2_ n3_;(try clear hb);(try clear hb2);(try clear hk);(try clear hi);(try clear ho0))))
  (try simp only [Act.put,List.setIfInBounds_toArray,List.set_cons_zero,List.set_cons_succ])
  go_cut [55] (fun v55 wc => ∃ (kq : Nat) (x55_10 : Bool),v55 = .bool x55_10 ∧ Aside0 (cofferlaw14_StackParts.j0 kq a2 a3 a4 t356 t359 t363 x55_10 = some r) ∧ Aside0 (kq ≤ k) ∧ Aside0 (Kd.S k25 25 wc w.heap.size (fun k_ => some k_ ≠ (v361 : Value).ownBlock ∧ some k_ ≠ (v365 : Value).ownBlock) (.slice Ao14 t356.length co14) t356) ∧ Aside0 (Kd.S k25 25 wc w.heap.size (fun k_ => some k_ ≠ ((.slice Ao14 t356.length co14) : Value).ownBlock ∧ some k_ ≠ (v365 : Value).ownBlock) v361 t359) ∧ Aside0 (Kd.S k25 25 wc w.heap.size (fun k_ => some k_ ≠ ((.slice Ao14 t356.length co14) : Value).ownBlock ∧ some k_ ≠ (v361 : Value).ownBlock) v365 t363) ∧ Aside0 (Below w.heap.size w wc))
  case first =>
   have H:=HC11.out
   clear HC11
   by_cases c17 : t360 = 0
   ·rw [if_pos c17] at H
    have c17b0 : (t360 == 0) = true:=beq_iff_eq.mpr c17
    have c17b1 : (t360 != 0) = false:=bne_eq_false_iff_eq.mpr c17
    clear c17
    (first|rw [c17b0]|(simp only [i64_w,i32_w];rw [c17b0])|rw [c17b1]|skip)
    by_cases c18 : t364 = 0
    ·rw [if_pos c18] at H
     have c18b0 : (t364 == 0) = true:=beq_iff_eq.mpr c18
     have c18b1 : (t364 != 0) = false:=bne_eq_false_iff_eq.mpr c18
     clear c18
     have H':=Aside0.mk H
     clear H
     go_wp2
     repeat (go_quiet (fail);try go_wp2)
     go_meet
     case rel => exact ⟨_,((a2 != a3)),(by first|rfl|(simp;done)|(simp [Go.Proofs.Ytmgiolijjheodaa.Z.bne_nil,Go.Proofs.Ytmgiolijjheodaa.Z.beq_nil];done)|(simp [*];done)),H',⟨by first|omega|exact Nat.le_refl _⟩,⟨by (with_reducible repeat (first|apply Kd.S_alloc|apply Kd.S_drewN|apply Kd.S_drew));exact Kd.S_mono HO358.out (fun _ hk => ⟨hk.1.2,hk.2⟩)⟩,⟨by (with_reducible repeat (first|apply Kd.S_alloc|apply Kd.S_drewN|apply Kd.S_drew));exact Kd.S_mono HO362.out (fun _ hk => ⟨hk.1.2,hk.2⟩)⟩,⟨by (with_reducible repeat (first|apply Kd.S_alloc|apply Kd.S_drewN|apply Kd.S_drew));exact Kd.S_mono HO366.out (fun _ hk => ⟨hk.1.2,hk.2⟩)⟩,⟨by repeat (first|(with_reducible first|exact HB.out|apply below_alloc|apply pw_below_drewN|apply below_drew1)|exact HB.out)⟩⟩
    ·rw [if_neg c18] at H
     have c18b0 : (t364 == 0) = false:=beq_eq_false_iff_ne.mpr c18
     have c18b1 : (t364 != 0) = true:=bne_iff_ne.mpr c18
     have H':=Aside0.mk H
     clear H
     go_wp2
     repeat (go_quiet (fail);try go_wp2)
     go_meet
     case rel => exact ⟨_,(false),(by first|rfl|(simp;done)|(simp [Go.Proofs.Ytmgiolijjheodaa.Z.bne_nil,Go.Proofs.Ytmgiolijjheodaa.Z.beq_nil];done)|(simp [*];done)),H',⟨by first|omega|exact Nat.le_refl _⟩,⟨by (with_reducible repeat (first|apply Kd.S_alloc|apply Kd.S_drewN|apply Kd.S_drew));exact Kd.S_mono HO358.out (fun _ hk => ⟨hk.1.2,hk.2⟩)⟩,⟨by (with_reducible repeat (first|apply Kd.S_alloc|apply Kd.S_drewN|apply Kd.S_drew));exact Kd.S_mono HO362.out (fun _ hk => ⟨hk.1.2,hk.2⟩)⟩,⟨by (with_reducible repeat (first|apply Kd.S_alloc|apply Kd.S_drewN|apply Kd.S_drew));exact Kd.S_mono HO366.out (fun _ hk => ⟨hk.1.2,hk.2⟩)⟩,⟨by repeat (first|(with_reducible first|exact HB.out|apply below_alloc|apply pw_below_drewN|apply below_drew1)|exact HB.out)⟩⟩
   ·rw [if_neg c17] at H
    have c17b0 : (t360 == 0) = false:=beq_eq_false_iff_ne.mpr c17
    have c17b1 : (t360 != 0) = true:=bne_iff_ne.mpr c17
    (first|rw [c17b0]|(simp only [i64_w,i32_w];rw [c17b0])|rw [c17b1]|skip)
    have H':=Aside0.mk H
    clear H
    go_wp2
    repeat (go_quiet (fail);try go_wp2)
    go_meet
    case rel => exact ⟨_,(false),(by first|rfl|(simp;done)|(simp [Go.Proofs.Ytmgiolijjheodaa.Z.bne_nil,Go.Proofs.Ytmgiolijjheodaa.Z.beq_nil];done)|(simp [*];done)),H',⟨by first|omega|exact Nat.le_refl _⟩,⟨by (with_reducible repeat (first|apply Kd.S_alloc|apply Kd.S_drewN|apply Kd.S_drew));exact Kd.S_mono HO358.out (fun _ hk => ⟨hk.1.2,hk.2⟩)⟩,⟨by (with_reducible repeat (first|apply Kd.S_alloc|apply Kd.S_drewN|apply Kd.S_drew));exact Kd.S_mono HO362.out (fun _ hk => ⟨hk.1.2,hk.2⟩)⟩,⟨by (with_reducible repeat (first|apply Kd.S_alloc|apply Kd.S_drewN|apply Kd.S_drew));exact Kd.S_mono HO366.out (fun _ hk => ⟨hk.1.2,hk.2⟩)⟩,⟨by repeat (first|(with_reducible first|exact HB.out|apply below_alloc|apply pw_below_drewN|apply below_drew1)|exact HB.out)⟩⟩
  case rest =>
   clear HC11
   try clear c1
   try clear p2
   try clear c4
   try clear c7
   try clear c17
   try clear c17b0
   try clear c17b1
   try clear c18
   try clear c18b0
   try clear c18b1
   obtain ⟨kq,x55_10,rfl,HA,HJ10,HO_11,HO_12,HO_14,HB⟩:=hcut
   cases kq with
   | zero => exact absurd HA.out (by simp [cofferlaw14_StackParts.j0])
   | succ kj10 =>
    have H:=HA.out
    clear HA
    simp only [cofferlaw14_StackParts.j0] at H
    have HC19:=Aside0.mk H
    clear H
    go_upto_if 55 with (fail)
    repeat (go_quiet (fail);go_upto_if 55 with (fail))
    go_cut [] (fun wc => ∃ (kq : Nat),Aside0 (cofferlaw14_StackParts.j1 kq a4 t356 = some r) ∧ Aside0 (kq ≤ kj10) ∧ Aside0 (Kd.S k25 25 wc w.heap.size (fun _ => True) (.slice Ao14 t356.length co14) t356) ∧ Aside0 (Below w.heap.size w wc))
    case first =>
     have H:=HC19.out
     clear HC19
     by_cases c20 : x55_10 = true
     ·subst c20
      have H1 : ((stack_Remove.f kj10 t359 a3).bind fun bt367 => ((stack_Remove.f kj10 t363 a2).bind fun bt371 => (if bt367.2 = 0 then (if bt371.2 = 0 then ((cofferlaw14_alike.f kj10 bt367.1 bt371.1).bind fun t375 => (if t375 = true then ((cofferlaw14_right.f kj10 bt367.1).bind fun t376 => (if t376 = true then (cofferlaw14_StackParts.j1 kj10 a4 t356) else (none))) else (none))) else (none)) else (none)))) = some r:=by rw [if_pos rfl] at H;exact H
      clear H
      have H:=H1
      clear H1
      replace H:=Option.bind_eq_some_iff.mp H
      obtain ⟨⟨t367,t368⟩,A210,H⟩:=H
      replace H : ((stack_Remove.f kj10 t363 a2).bind fun bt371 => (if t368 = 0 then (if bt371.2 = 0 then ((cofferlaw14_alike.f kj10 t367 bt371.1).bind fun t375 => (if t375 = true then ((cofferlaw14_right.f kj10 t367).bind fun t376 => (if t376 = true then (cofferlaw14_StackParts.j1 kj10 a4 t356) else (none))) else (none))) else (none)) else (none))) = some r:=H
      have A21:=Aside0.mk A210
      clear A210
      replace H:=Option.bind_eq_some_iff.mp H
      obtain ⟨⟨t371,t372⟩,A220,H⟩:=H
      replace H : (if t368 = 0 then (if t372 = 0 then ((cofferlaw14_alike.f kj10 t367 t371).bind fun t375 => (if t375 = true then ((cofferlaw14_right.f kj10 t367).bind fun t376 => (if t376 = true then (cofferlaw14_StackParts.j1 kj10 a4 t356) else (none))) else (none))) else (none)) else (none)) = some r:=H
      have A22:=Aside0.mk A220
      clear A220
      by_cases c23 : t368 = 0
      ·rw [if_pos c23] at H
       have c23b0 : (t368 == 0) = true:=beq_iff_eq.mpr c23
       have c23b1 : (t368 != 0) = false:=bne_eq_false_iff_eq.mpr c23
       clear c23
       (first|rw [c23b0]|(simp only [i64_w,i32_w];rw [c23b0])|rw [c23b1]|skip)
       by_cases c24 : t372 = 0
       ·rw [if_pos c24] at H
        have c24b0 : (t372 == 0) = true:=beq_iff_eq.mpr c24
        have c24b1 : (t372 != 0) = false:=bne_eq_false_iff_eq.mpr c24
        clear c24
        replace H:=Option.bind_eq_some_iff.mp H
        obtain ⟨t375,A250,H⟩:=H
        replace H : (if t375 = true then ((cofferlaw14_right.f kj10 t367).bind fun t376 => (if t376 = true then (cofferlaw14_StackParts.j1 kj10 a4 t356) else (none))) else (none)) = some r:=H
        have A25:=Aside0.mk A250
        clear A250
        by_cases c26 : t375 = true
        ·subst c26
         have H1 : ((cofferlaw14_right.f kj10 t367).bind fun t376 => (if t376 = true then (cofferlaw14_StackParts.j1 kj10 a4 t356) else (none))) = some r:=by rw [if_pos rfl] at H;exact H
         clear H
         have H:=H1
         clear H1
         replace H:=Option.bind_eq_some_iff.mp H
         obtain ⟨t376,A270,H⟩:=H
         replace H : (if t376 = true then (cofferlaw14_StackParts.j1 kj10 a4 t356) else (none)) = some r:=H
         have A27:=Aside0.mk A270
         clear A270
         by_cases c28 : t376 = true
         ·subst c28
          have H1 : (cofferlaw14_StackParts.j1 kj10 a4 t356) = some r:=by rw [if_pos rfl] at H;exact H
          clear H
          have H:=H1
          clear H1
          have H':=Aside0.mk H
          clear H
          obtain ⟨Ao29,co29,eo29⟩:=Kd.S_slice HO_12.out
          subst eo29
          go_wp2_with (first|(go_at_call 18;(with_reducible refine (stack_Remove.calls kj10 _ _ t359 a3 t367 t368 _ ?side1 ?side2 A21.out).mono ?_);(case side1 => repeat (first|exact (Kd.S_reads' HO_12.out).2.2|(with_reducible refine Kd.C_alloc ?_ _)|(with_reducible refine Kd.C_drewN ?_ _)|(with_reducible refine Kd.C_drew ?_)));(case side2 => exact (Kd.S_reads' HO_12.out).2.1);rintro e w30 ⟨v369,rfl,ho0,hb⟩;have n0_:=Aside0.mk (Kd.S_elder' (by (with_reducible repeat (first|apply Kd.S_alloc|apply Kd.S_drewN|apply Kd.S_drew));exact HO_11.out) (Kd.S_base ho0) hb);have n1_:=Aside0.mk (Kd.S_elder' (by (with_reducible repeat (first|apply Kd.S_alloc|apply Kd.S_drewN|apply Kd.S_drew));exact HO_12.out) (Kd.S_base ho0) hb);have n2_:=Aside0.mk (Kd.S_elder' (by (with_reducible repeat (first|apply Kd.S_alloc|apply Kd.S_drewN|apply Kd.S_drew));exact HO_14.out) (Kd.S_base ho0) hb);have n3_:=Aside0.mk (Kd.S_lower (Kd.S_new' (Kd.S_new' (Kd.S_new' ho0 (Kd.S_lt (by (with_reducible repeat (first|apply Kd.S_alloc|apply Kd.S_drewN|apply Kd.S_drew));exact HO_11.out))) (Kd.S_lt (by (with_reducible repeat (first|apply Kd.S_alloc|apply Kd.S_drewN|apply Kd.S_drew));exact HO_12.out))) (Kd.S_lt (by (with_reducible repeat (first|apply Kd.S_alloc|apply Kd.S_drewN|apply Kd.S_drew));exact HO_14.out))) (below_size (by repeat (first|(with_reducible first|exact HB.out|apply below_alloc|apply pw_below_drewN|apply below_drew1)|exact HB.out))));have n4_:=Aside0.mk (below_step (by repeat (first|(with_reducible first|exact HB.out|apply below_alloc|apply pw_below_drewN|apply below_drew1)|exact HB.out)) hb);clear HO_11;clear HO_12;clear HO_14;clear HB;have HO_11:=n0_;have HO_12:=n1_;have HO_14:=n2_;have HO370:=n3_;have HB:=n4_;clear n0_ n1_ n2_ n3_ n4_;(try clear hb);(try clear hb2);(try clear hk);(try clear hi);(try clear ho0);obtain ⟨Ao31,co31,eo31⟩:=Kd.S_slice HO_14.out;subst eo31)|(go_at_call 18;(with_reducible refine (stack_Remove.calls kj10 _ _ t363 a2 t371 t372 _ ?side1 ?side2 A22.out).mono ?_);(case side1 => repeat (first|exact (Kd.S_reads' HO_14.out).2.2|(with_reducible refine Kd.C_alloc ?_ _)|(with_reducible refine Kd.C_drewN ?_ _)|(with_reducible refine Kd.C_drew ?_)));(case side2 => exact (Kd.S_reads' HO_14.out).2.1);rintro e w32 ⟨v373,rfl,ho0,hb⟩;have n0_:=Aside0.mk (Kd.S_elder' (by (with_reducible repeat (first|apply Kd.S_alloc|apply Kd.S_drewN|apply Kd.S_drew));exact HO_11.out) (Kd.S_base ho0) hb);have n1_:=Aside0.mk (Kd.S_elder' (by (with_reducible repeat (first|apply Kd.S_alloc|apply Kd.S_drewN|apply Kd.S_drew));exact HO_12.out) (Kd.S_base ho0) hb);have n2_:=Aside0.mk (Kd.S_elder' (by (with_reducible repeat (first|apply Kd.S_alloc|apply Kd.S_drewN|apply Kd.S_drew));exact HO_14.out) (Kd.S_base ho0) hb);have n3_:=Aside0.mk (Kd.S_elder' (by (with_reducible repeat (first|apply Kd.S_alloc|apply Kd.S_drewN|apply Kd.S_drew));exact HO370.out) (Kd.S_base ho0) hb);have n4_:=Aside0.mk (Kd.S_lower (Kd.S_new' (Kd.S_new' (Kd.S_new' (Kd.S_new' ho0 (Kd.S_lt (by (with_reducible repeat (first|apply Kd.S_alloc|apply Kd.S_drewN|apply Kd.S_drew));exact HO_11.out))) (Kd.S_lt (by (with_reducible repeat (first|apply Kd.S_alloc|apply Kd.S_drewN|apply Kd.S_drew));exact HO_12.out))) (Kd.S_lt (by (with_reducible repeat (first|apply Kd.S_alloc|apply Kd.S_drewN|apply Kd.S_drew));exact HO_14.out))) (Kd.S_lt (by (with_reducible repeat (first|apply Kd.S_alloc|apply Kd.S_drewN|apply Kd.S_drew));exact HO370.out))) (below_size (by repeat (first|(with_reducible first|exact HB.out|apply below_alloc|apply pw_below_drewN|apply below_drew1)|exact HB.out))));have n5_:=Aside0.mk (below_step (by repeat (first|(with_reducible first|exact HB.out|apply below_alloc|apply pw_below_drewN|apply below_drew1)|exact HB.out)) hb);clear HO_11;clear HO_12;clear HO_14;clear HO370;clear HB;have HO_11:=n0_;have HO_12:=n1_;have HO_14:=n2_;have HO370:=n3_;have HO374:=n4_;have HB:=n5_;clear n0_ n1_ n2_ n3_ n4_ n5_;(try clear hb);(try clear hb2);(try clear hk);(try clear hi);(try clear ho0);obtain ⟨Ao33,co33,eo33⟩:=Kd.S_slice HO370.out;subst eo33;obtain ⟨Ao34,co34,eo34⟩:=Kd.S_slice HO374.out;subst eo34)|(go_at_call 19;(with_reducible refine (cofferlaw14_alike.calls kj10 _ _ t367 _ _ t371 true _ ?side1 ?side2 ?side3 ?side4 A25.out).mono ?_);(case side1 => repeat (first|exact (Kd.S_reads' HO370.out).2.2|(with_reducible refine Kd.C_alloc ?_ _)|(with_reducible refine Kd.C_drewN ?_ _)|(with_reducible refine Kd.C_drew ?_)));(case side2 => exact (Kd.S_reads' HO370.out).2.1);(case side3 => repeat (first|exact (Kd.S_reads' HO374.out).2.2|(with_reducible refine Kd.C_alloc ?_ _)|(with_reducible refine Kd.C_drewN ?_ _)|(with_reducible refine Kd.C_drew ?_)));(case side4 => exact (Kd.S_reads' HO374.out).2.1);rintro e w35 ⟨rfl,hb⟩;have n0_:=Aside0.mk (Kd.S_below (by (with_reducible repeat (first|apply Kd.S_alloc|apply Kd.S_drewN|apply Kd.S_drew));exact HO_11.out) hb);have n1_:=Aside0.mk (Kd.S_below (by (with_reducible repeat (first|apply Kd.S_alloc|apply Kd.S_drewN|apply Kd.S_drew));exact HO_12.out) hb);have n2_:=Aside0.mk (Kd.S_below (by (with_reducible repeat (first|apply Kd.S_alloc|apply Kd.S_drewN|apply Kd.S_drew));exact HO_14.out) hb);have n3_:=Aside0.mk (Kd.S_below (by (with_reducible repeat (first|apply Kd.S_alloc|apply Kd.S_drewN|apply Kd.S_drew));exact HO370.out) hb);have n4_:=Aside0.mk (Kd.S_below (by (with_reducible repeat (first|apply Kd.S_alloc|apply Kd.S_drewN|apply Kd.S_drew));exact HO374.out) hb);have n5_:=Aside0.mk (below_step (by repeat (first|(with_reducible first|exact HB.out|apply below_alloc|apply pw_below_drewN|apply below_drew1)|exact HB.out)) hb);clear HO_11;clear HO_12;clear HO_14;clear HO370;clear HO374;clear HB;have HO_11:=n0_;have HO_12:=n1_;have HO_14:=n2_;have HO370:=n3_;have HO374:=n4_;have HB:=n5_;clear n0_ n1_ n2_ n3_ n4_ n5_;(try clear hb);(try clear hb2);(try clear hk);(try clear hi))|(go_at_call 20;(with_reducible refine (cofferlaw14_right.calls kj10 _ _ t367 true _ ?side1 ?side2 A27.out).mono ?_);(case side1 => repeat (first|exact (Kd.S_reads' HO370.out).2.2|(with_reducible refine Kd.C_alloc ?_ _)|(with_reducible refine Kd.C_drewN ?_ _)|(with_reducible refine Kd.C_drew ?_)));(case side2 => exact (Kd.S_reads' HO370.out).2.1);rintro e w' ⟨rfl,⟨nd,rfl⟩⟩;(try first|exact ⟨rfl,_,World.drewN_drewN _ _ _⟩|exact ⟨rfl,_,Eq.trans (World.drewN_drewN _ _ _) (congrArg (World.drewN _) (Nat.add_assoc _ _ _))⟩)))
          repeat (go_quiet (first|(go_at_call 18;(with_reducible refine (stack_Remove.calls kj10 _ _ t359 a3 t367 t368 _ ?side1 ?side2 A21.out).mono ?_);(case side1 => repeat (first|exact (Kd.S_reads' HO_12.out).2.2|(with_reducible refine Kd.C_alloc ?_ _)|(with_reducible refine Kd.C_drewN ?_ _)|(with_reducible refine Kd.C_drew ?_)));(case side2 => exact (Kd.S_reads' HO_12.out).2.1);rintro e w30 ⟨v369,rfl,ho0,hb⟩;have n0_:=Aside0.mk (Kd.S_elder' (by (with_reducible repeat (first|apply Kd.S_alloc|apply Kd.S_drewN|apply Kd.S_drew));exact HO_11.out) (Kd.S_base ho0) hb);have n1_:=Aside0.mk (Kd.S_elder' (by (with_reducible repeat (first|apply Kd.S_alloc|apply Kd.S_drewN|apply Kd.S_drew));exact HO_12.out) (Kd.S_base ho0) hb);have n2_:=Aside0.mk (Kd.S_elder' (by (with_reducible repeat (first|apply Kd.S_alloc|apply Kd.S_drewN|apply Kd.S_drew));exact HO_14.out) (Kd.S_base ho0) hb);have n3_:=Aside0.mk (Kd.S_lower (Kd.S_new' (Kd.S_new' (Kd.S_new' ho0 (Kd.S_lt (by (with_reducible repeat (first|apply Kd.S_alloc|apply Kd.S_drewN|apply Kd.S_drew));exact HO_11.out))) (Kd.S_lt (by (with_reducible repeat (first|apply Kd.S_alloc|apply Kd.S_drewN|apply Kd.S_drew));exact HO_12.out))) (Kd.S_lt (by (with_reducible repeat (first|apply Kd.S_alloc|apply Kd.S_drewN|apply Kd.S_drew));exact HO_14.out))) (below_size (by repeat (first|(with_reducible first|exact HB.out|apply below_alloc|apply pw_below_drewN|apply below_drew1)|exact HB.out))));have n4_:=Aside0.mk (below_step (by repeat (first|(with_reducible first|exact HB.out|apply below_alloc|apply pw_below_drewN|apply below_drew1)|exact HB.out)) hb);clear HO_11;clear HO_12;clear HO_14;clear HB;have HO_11:=n0_;have HO_12:=n1_;have HO_14:=n2_;have HO370:=n3_;have HB:=n4_;clear n0_ n1_ n2_ n3_ n4_;(try clear hb);(try clear hb2);(try clear hk);(try clear hi);(try clear ho0);obtain ⟨Ao31,co31,eo31⟩:=Kd.S_slice HO_14.out;subst eo31)|(go_at_call 18;(with_reducible refine (stack_Remove.calls kj10 _ _ t363 a2 t371 t372 _ ?side1 ?side2 A22.out).mono ?_);(case side1 => repeat (first|exact (Kd.S_reads' HO_14.out).2.2|(with_reducible refine Kd.C_alloc ?_ _)|(with_reducible refine Kd.C_drewN ?_ _)|(with_reducible refine Kd.C_drew ?_)));(case side2 => exact (Kd.S_reads' HO_14.out).2.1);rintro e w32 ⟨v373,rfl,ho0,hb⟩;have n0_:=Aside0.mk (Kd.S_elder' (by (with_reducible repeat (first|apply Kd.S_alloc|apply Kd.S_drewN|apply Kd.S_drew));exact HO_11.out) (Kd.S_base ho0) hb);have n1_:=Aside0.mk (Kd.S_elder' (by (with_reducible repeat (first|apply Kd.S_alloc|apply Kd.S_drewN|apply Kd.S_drew));exact HO_12.out) (Kd.S_base ho0) hb);have n2_:=Aside0.mk (Kd.S_elder' (by (with_reducible repeat (first|apply Kd.S_alloc|apply Kd.S_drewN|apply Kd.S_drew));exact HO_14.out) (Kd.S_base ho0) hb);have n3_:=Aside0.mk (Kd.S_elder' (by (with_reducible repeat (first|apply Kd.S_alloc|apply Kd.S_drewN|apply Kd.S_drew));exact HO370.out) (Kd.S_base ho0) hb);have n4_:=Aside0.mk (Kd.S_lower (Kd.S_new' (Kd.S_new' (Kd.S_new' (Kd.S_new' ho0 (Kd.S_lt (by (with_reducible repeat (first|apply Kd.S_alloc|apply Kd.S_drewN|apply Kd.S_drew));exact HO_11.out))) (Kd.S_lt (by (with_reducible repeat (first|apply Kd.S_alloc|apply Kd.S_drewN|apply Kd.S_drew));exact HO_12.out))) (Kd.S_lt (by (with_reducible repeat (first|apply Kd.S_alloc|apply Kd.S_drewN|apply Kd.S_drew));exact HO_14.out))) (Kd.S_lt (by (with_reducible repeat (first|apply Kd.S_alloc|apply Kd.S_drewN|apply Kd.S_drew));exact HO370.out))) (below_size (by repeat (first|(with_reducible first|exact HB.out|apply below_alloc|apply pw_below_drewN|apply below_drew1)|exact HB.out))));have n5_:=Aside0.mk (below_step (by repeat (first|(with_reducible first|exact HB.out|apply below_alloc|apply pw_below_drewN|apply below_drew1)|exact HB.out)) hb);clear HO_11;clear HO_12;clear HO_14;clear HO370;clear HB;have HO_11:=n0_;have HO_12:=n1_;have HO_14:=n2_;have HO370:=n3_;have HO374:=n4_;have HB:=n5_;clear n0_ n1_ n2_ n3_ n4_ n5_;(try clear hb);(try clear hb2);(try clear hk);(try clear hi);(try clear ho0);obtain ⟨Ao33,co33,eo33⟩:=Kd.S_slice HO370.out;subst eo33;obtain ⟨Ao34,co34,eo34⟩:=Kd.S_slice HO374.out;subst eo34)|(go_at_call 19;(with_reducible refine (cofferlaw14_alike.calls kj10 _ _ t367 _ _ t371 true _ ?side1 ?side2 ?side3 ?side4 A25.out).mono ?_);(case side1 => repeat (first|exact (Kd.S_reads' HO370.out).2.2|(with_reducible refine Kd.C_alloc ?_ _)|(with_reducible refine Kd.C_drewN ?_ _)|(with_reducible refine Kd.C_drew ?_)));(case side2 => exact (Kd.S_reads' HO370.out).2.1);(case side3 => repeat (first|exact (Kd.S_reads' HO374.out).2.2|(with_reducible refine Kd.C_alloc ?_ _)|(with_reducible refine Kd.C_drewN ?_ _)|(with_reducible refine Kd.C_drew ?_)));(case side4 => exact (Kd.S_reads' HO374.out).2.1);rintro e w35 ⟨rfl,hb⟩;have n0_:=Aside0.mk (Kd.S_below (by (with_reducible repeat (first|apply Kd.S_alloc|apply Kd.S_drewN|apply Kd.S_drew));exact HO_11.out) hb);have n1_:=Aside0.mk (Kd.S_below (by (with_reducible repeat (first|apply Kd.S_alloc|apply Kd.S_drewN|apply Kd.S_drew));exact HO_12.out) hb);have n2_:=Aside0.mk (Kd.S_below (by (with_reducible repeat (first|apply Kd.S_alloc|apply Kd.S_drewN|apply Kd.S_drew));exact HO_14.out) hb);have n3_:=Aside0.mk (Kd.S_below (by (with_reducible repeat (first|apply Kd.S_alloc|apply Kd.S_drewN|apply Kd.S_drew));exact HO370.out) hb);have n4_:=Aside0.mk (Kd.S_below (by (with_reducible repeat (first|apply Kd.S_alloc|apply Kd.S_drewN|apply Kd.S_drew));exact HO374.out) hb);have n5_:=Aside0.mk (below_step (by repeat (first|(with_reducible first|exact HB.out|apply below_alloc|apply pw_below_drewN|apply below_drew1)|exact HB.out)) hb);clear HO_11;clear HO_12;clear HO_14;clear HO370;clear HO374;clear HB;have HO_11:=n0_;have HO_12:=n1_;have HO_14:=n2_;have HO370:=n3_;have HO374:=n4_;have HB:=n5_;clear n0_ n1_ n2_ n3_ n4_ n5_;(try clear hb);(try clear hb2);(try clear hk);(try clear hi))|(go_at_call 20;(with_reducible refine (cofferlaw14_right.calls kj10 _ _ t367 true _ ?side1 ?side2 A27.out).mono ?_);(case side1 => repeat (first|exact (Kd.S_reads' HO370.out).2.2|(with_reducible refine Kd.C_alloc ?_ _)|(with_reducible refine Kd.C_drewN ?_ _)|(with_reducible refine Kd.C_drew ?_)));(case side2 => exact (Kd.S_reads' HO370.out).2.1);rintro e w' ⟨rfl,⟨nd,rfl⟩⟩;(try first|exact ⟨rfl,_,World.drewN_drewN _ _ _⟩|exact ⟨rfl,_,Eq.trans (World.drewN_drewN _ _ _) (congrArg (World.drewN _) (Nat.add_assoc _ _ _))⟩)));try go_wp2_with (first|(go_at_call 18;(with_reducible refine (stack_Remove.calls kj10 _ _ t359 a3 t367 t368 _ ?side1 ?side2 A21.out).mono ?_);(case side1 => repeat (first|exact (Kd.S_reads' HO_12.out).2.2|(with_reducible refine Kd.C_alloc ?_ _)|(with_reducible refine Kd.C_drewN ?_ _)|(with_reducible refine Kd.C_drew ?_)));(case side2 => exact (Kd.S_reads' HO_12.out).2.1);rintro e w30 ⟨v369,rfl,ho0,hb⟩;have n0_:=Aside0.mk (Kd.S_elder' (by (with_reducible repeat (first|apply Kd.S_alloc|apply Kd.S_drewN|apply Kd.S_drew));exact HO_11.out) (Kd.S_base ho0) hb);have n1_:=Aside0.mk (Kd.S_elder' (by (with_reducible repeat (first|apply Kd.S_alloc|apply Kd.S_drewN|apply Kd.S_drew));exact HO_12.out) (Kd.S_base ho0) hb);have n2_:=Aside0.mk (Kd.S_elder' (by (with_reducible repeat (first|apply Kd.S_alloc|apply Kd.S_drewN|apply Kd.S_drew));exact HO_14.out) (Kd.S_base ho0) hb);have n3_:=Aside0.mk (Kd.S_lower (Kd.S_new' (Kd.S_new' (Kd.S_new' ho0 (Kd.S_lt (by (with_reducible repeat (first|apply Kd.S_alloc|apply Kd.S_drewN|apply Kd.S_drew));exact HO_11.out))) (Kd.S_lt (by (with_reducible repeat (first|apply Kd.S_alloc|apply Kd.S_drewN|apply Kd.S_drew));exact HO_12.out))) (Kd.S_lt (by (with_reducible repeat (first|apply Kd.S_alloc|apply Kd.S_drewN|apply Kd.S_drew));exact HO_14.out))) (below_size (by repeat (first|(with_reducible first|exact HB.out|apply below_alloc|apply pw_below_drewN|apply below_drew1)|exact HB.out))));have n4_:=Aside0.mk (below_step (by repeat (first|(with_reducible first|exact HB.out|apply below_alloc|apply pw_below_drewN|apply below_drew1)|exact HB.out)) hb);clear HO_11;clear HO_12;clear HO_14;clear HB;have HO_11:=n0_;have HO_12:=n1_;have HO_14:=n2_;have HO370:=n3_;have HB:=n4_;clear n0_ n1_ n2_ n3_ n4_;(try clear hb);(try clear hb2);(try clear hk);(try clear hi);(try clear ho0);obtain ⟨Ao31,co31,eo31⟩:=Kd.S_slice HO_14.out;subst eo31)|(go_at_call 18;(with_reducible refine (stack_Remove.calls kj10 _ _ t363 a2 t371 t372 _ ?side1 ?side2 A22.out).mono ?_);(case side1 => repeat (first|exact (Kd.S_reads' HO_14.out).2.2|(with_reducible refine Kd.C_alloc ?_ _)|(with_reducible refine Kd.C_drewN ?_ _)|(with_reducible refine Kd.C_drew ?_)));(case side2 => exact (Kd.S_reads' HO_14.out).2.1);rintro e w32 ⟨v373,rfl,ho0,hb⟩;have n0_:=Aside0.mk (Kd.S_elder' (by (with_reducible repeat (first|apply Kd.S_alloc|apply Kd.S_drewN|apply Kd.S_drew));exact HO_11.out) (Kd.S_base ho0) hb);have n1_:=Aside0.mk (Kd.S_elder' (by (with_reducible repeat (first|apply Kd.S_alloc|apply Kd.S_drewN|apply Kd.S_drew));exact HO_12.out) (Kd.S_base ho0) hb);have n2_:=Aside0.mk (Kd.S_elder' (by (with_reducible repeat (first|apply Kd.S_alloc|apply Kd.S_drewN|apply Kd.S_drew));exact HO_14.out) (Kd.S_base ho0) hb);have n3_:=Aside0.mk (Kd.S_elder' (by (with_reducible repeat (first|apply Kd.S_alloc|apply Kd.S_drewN|apply Kd.S_drew));exact HO370.out) (Kd.S_base ho0) hb);have n4_:=Aside0.mk (Kd.S_lower (Kd.S_new' (Kd.S_new' (Kd.S_new' (Kd.S_new' ho0 (Kd.S_lt (by (with_reducible repeat (first|apply Kd.S_alloc|apply Kd.S_drewN|apply Kd.S_drew));exact HO_11.out))) (Kd.S_lt (by (with_reducible repeat (first|apply Kd.S_alloc|apply Kd.S_drewN|apply Kd.S_drew));exact HO_12.out))) (Kd.S_lt (by (with_reducible repeat (first|apply Kd.S_alloc|apply Kd.S_drewN|apply Kd.S_drew));exact HO_14.out))) (Kd.S_lt (by (with_reducible repeat (first|apply Kd.S_alloc|apply Kd.S_drewN|apply Kd.S_drew));exact HO370.out))) (below_size (by repeat (first|(with_reducible first|exact HB.out|apply below_alloc|apply pw_below_drewN|apply below_drew1)|exact HB.out))));have n5_:=Aside0.mk (below_step (by repeat (first|(with_reducible first|exact HB.out|apply below_alloc|apply pw_below_drewN|apply below_drew1)|exact HB.out)) hb);clear HO_11;clear HO_12;clear HO_14;clear HO370;clear HB;have HO_11:=n0_;have HO_12:=n1_;have HO_14:=n2_;have HO370:=n3_;have HO374:=n4_;have HB:=n5_;clear n0_ n1_ n2_ n3_ n4_ n5_;(try clear hb);(try clear hb2);(try clear hk);(try clear hi);(try clear ho0);obtain ⟨Ao33,co33,eo33⟩:=Kd.S_slice HO370.out;subst eo33;obtain ⟨Ao34,co34,eo34⟩:=Kd.S_slice HO374.out;subst eo34)|(go_at_call 19;(with_reducible refine (cofferlaw14_alike.calls kj10 _ _ t367 _ _ t371 true _ ?side1 ?side2 ?side3 ?side4 A25.out).mono ?_);(case side1 => repeat (first|exact (Kd.S_reads' HO370.out).2.2|(with_reducible refine Kd.C_alloc ?_ _)|(with_reducible refine Kd.C_drewN ?_ _)|(with_reducible refine Kd.C_drew ?_)));(case side2 => exact (Kd.S_reads' HO370.out).2.1);(case side3 => repeat (first|exact (Kd.S_reads' HO374.out).2.2|(with_reducible refine Kd.C_alloc ?_ _)|(with_reducible refine Kd.C_drewN ?_ _)|(with_reducible refine Kd.C_drew ?_)));(case side4 => exact (Kd.S_reads' HO374.out).2.1);rintro e w35 ⟨rfl,hb⟩;have n0_:=Aside0.mk (Kd.S_below (by (with_reducible repeat (first|apply Kd.S_alloc|apply Kd.S_drewN|apply Kd.S_drew));exact HO_11.out) hb);have n1_:=Aside0.mk (Kd.S_below (by (with_reducible repeat (first|apply Kd.S_alloc|apply Kd.S_drewN|apply Kd.S_drew));exact HO_12.out) hb);have n2_:=Aside0.mk (Kd.S_below (by (with_reducible repeat (first|apply Kd.S_alloc|apply Kd.S_drewN|apply Kd.S_drew));exact HO_14.out) hb);have n3_:=Aside0.mk (Kd.S_below (by (with_reducible repeat (first|apply Kd.S_alloc|apply Kd.S_drewN|apply Kd.S_drew));exact HO370.out) hb);have n4_:=Aside0.mk (Kd.S_below (by (with_reducible repeat (first|apply Kd.S_alloc|apply Kd.S_drewN|apply Kd.S_drew));exact HO374.out) hb);have n5_:=Aside0.mk (below_step (by repeat (first|(with_reducible first|exact HB.out|apply below_alloc|apply pw_below_drewN|apply below_drew1)|exact HB.out)) hb);clear HO_11;clear HO_12;clear HO_14;clear HO370;clear HO374;clear HB;have HO_11:=n0_;have HO_12:=n1_;have HO_14:=n2_;have HO370:=n3_;have HO374:=n4_;have HB:=n5_;clear n0_ n1_ n2_ n3_ n4_ n5_;(try clear hb);(try clear hb2);(try clear hk);(try clear hi))|(go_at_call 20;(with_reducible refine (cofferlaw14_right.calls kj10 _ _ t367 true _ ?side1 ?side2 A27.out).mono ?_);(case side1 => repeat (first|exact (Kd.S_reads' HO370.out).2.2|(with_reducible refine Kd.C_alloc ?_ _)|(with_reducible refine Kd.C_drewN ?_ _)|(with_reducible refine Kd.C_drew ?_)));(case side2 => exact (Kd.S_reads' HO370.out).2.1);rintro e w' ⟨rfl,⟨nd,rfl⟩⟩;(try first|exact ⟨rfl,_,World.drewN_drewN _ _ _⟩|exact ⟨rfl,_,Eq.trans (World.drewN_drewN _ _ _) (congrArg (World.drewN _) (Nat.add_assoc _ _ _))⟩))))
          go_meet
          case rel => exact ⟨_,H',⟨by have:=HJ10.out;first|omega|exact Nat.le_refl _⟩,⟨by (with_reducible repeat (first|apply Kd.S_alloc|apply Kd.S_drewN|apply Kd.S_drew));exact Kd.S_mono HO_11.out (fun _ hk => trivial)⟩,⟨by repeat (first|(with_reducible first|exact HB.out|apply below_alloc|apply pw_below_drewN|apply below_drew1)|exact HB.out)⟩⟩
         ·replace c28:=Bool.eq_false_iff.mpr c28
          subst c28
          have H1 : (none) = some r:=by rw [if_neg (show ¬ (false = true) by decide)] at H;exact H
          clear H
          have H:=H1
          clear H1
          exact absurd H (by simp)
        ·replace c26:=Bool.eq_false_iff.mpr c26
         subst c26
         have H1 : (none) = some r:=by rw [if_neg (show ¬ (false = true) by decide)] at H;exact H
         clear H
         have H:=H1
         clear H1
         exact absurd H (by simp)
       ·rw [if_neg c24] at H
        exact absurd H (by simp)
      ·rw [if_neg c23] at H
       exact absurd H (by simp)
     ·replace c20:=Bool.eq_false_iff.mpr c20
      subst c20
      have H1 : (cofferlaw14_StackParts.j1 kj10 a4 t356) = some r:=by rw [if_neg (show ¬ (false = true) by decide)] at H;exact H
      clear H
      have H:=H1
      clear H1
      have H':=Aside0.mk H
      clear H
      go_wp2
      repeat (go_quiet (fail);try go_wp2)
      go_meet
      case rel => exact ⟨_,H',⟨by have:=HJ10.out;first|omega|exact Nat.le_refl _⟩,⟨by (with_reducible repeat (first|apply Kd.S_alloc|apply Kd.S_drewN|apply Kd.S_drew));exact Kd.S_mono HO_11.out (fun _ hk => trivial)⟩,⟨by repeat (first|(with_reducible first|exact HB.out|apply below_alloc|apply pw_below_drewN|apply below_drew1)|exact HB.out)⟩⟩
    case rest =>
     clear HC19
     try clear c1
     try clear c2
     try clear p2
     try clear c4
     try clear c7
     try clear c17
     try clear c17b0
     try clear c17b1
     try clear c18
     try clear c18b0
     try clear c18b1
     try clear c20
     try clear c23
     try clear c23b0
     try clear c23b1
     try clear c24
     try clear c24b0
     try clear c24b1
     try clear c26
     try clear c28
     try clear p2
     obtain ⟨kq,HA,HJ18,HO_11,HB⟩:=hcut
     cases kq with
     | zero => exact absurd HA.out (by simp [cofferlaw14_StackParts.j1])
     | succ kj18 =>
      have H:=HA.out
      clear HA
      simp only [cofferlaw14_StackParts.j1] at H
      replace H:=Option.bind_eq_some_iff.mp H
      obtain ⟨t377,A360,H⟩:=H
      replace H : (if (wrap64 ((t356.length : Int) - (t377.length : Int))) < 0 then (cofferlaw14_StackParts.j2 kj18 a4 t356 t377 (wrap64 ((t356.length : Int) - (t377.length : Int))) true) else ((cofferlaw14_right.f kj18 t377).bind fun t380 => (if t380 = true then (if 0 ≤ (wrap64 ((t356.length : Int) - (t377.length : Int))) then (if (wrap64 ((t356.length : Int) - (t377.length : Int))) ≤ (t356.length : Int) then ((cofferlaw14_alike.f kj18 (t356.drop ((wrap64 ((t356.length : Int) - (t377.length : Int))) : Int).toNat) t377).bind fun t385 => (cofferlaw14_StackParts.j2 kj18 a4 t356 t377 (wrap64 ((t356.length : Int) - (t377.length : Int))) (!t385))) else (none)) else (none)) else (cofferlaw14_StackParts.j2 kj18 a4 t356 t377 (wrap64 ((t356.length : Int) - (t377.length : Int))) true)))) = some r:=H
      have A36:=Aside0.mk A360
      clear A360
      have HC37:=Aside0.mk H
      clear H
      go_upto_region 13 with (first|(go_at_call 21;(with_reducible refine (stack_Since.calls kj18 _ _ t356 a4 t377 _ ?side1 ?side2 A36.out).mono ?_);(case side1 => repeat (first|exact (Kd.S_reads' HO_11.out).2.2|(with_reducible refine Kd.C_alloc ?_ _)|(with_reducible refine Kd.C_drewN ?_ _)|(with_reducible refine Kd.C_drew ?_)));(case side2 => exact (Kd.S_reads' HO_11.out).2.1);rintro e w38 ⟨v378,rfl,ho0,hb⟩;have n0_:=Aside0.mk (Kd.S_elder' (by (with_reducible repeat (first|apply Kd.S_alloc|apply Kd.S_drewN|apply Kd.S_drew));exact HO_11.out) (Kd.S_base ho0) hb);have n1_:=Aside0.mk (Kd.S_lower (Kd.S_new' ho0 (Kd.S_lt (by (with_reducible repeat (first|apply Kd.S_alloc|apply Kd.S_drewN|apply Kd.S_drew));exact HO_11.out))) (below_size (by repeat (first|(with_reducible first|exact HB.out|apply below_alloc|apply pw_below_drewN|apply below_drew1)|exact HB.out))));have n2_:=Aside0.mk (below_step (by repeat (first|(with_reducible first|exact HB.out|apply below_alloc|apply pw_below_drewN|apply below_drew1)|exact HB.out)) hb);clear HO_11;clear HB;have HO_11:=n0_;have HO379:=n1_;have HB:=n2_;clear n0_ n1_ n2_;(try clear hb);(try clear hb2);(try clear hk);(try clear hi);(try clear ho0);obtain ⟨Ao39,co39,eo39⟩:=Kd.S_slice HO379.out;subst eo39))
      repeat (go_quiet (first|(go_at_call 21;(with_reducible refine (stack_Since.calls kj18 _ _ t356 a4 t377 _ ?side1 ?side2 A36.out).mono ?_);(case side1 => repeat (first|exact (Kd.S_reads' HO_11.out).2.2|(with_reducible refine Kd.C_alloc ?_ _)|(with_reducible refine Kd.C_drewN ?_ _)|(with_reducible refine Kd.C_drew ?_)));(case side2 => exact (Kd.S_reads' HO_11.out).2.1);rintro e w38 ⟨v378,rfl,ho0,hb⟩;have n0_:=Aside0.mk (Kd.S_elder' (by (with_reducible repeat (first|apply Kd.S_alloc|apply Kd.S_drewN|apply Kd.S_drew));exact HO_11.out) (Kd.S_base ho0) hb);have n1_:=Aside0.mk (Kd.S_lower (Kd.S_new' ho0 (Kd.S_lt (by (with_reducible repeat (first|apply Kd.S_alloc|apply Kd.S_drewN|apply Kd.S_drew));exact HO_11.out))) (below_size (by repeat (first|(with_reducible first|exact HB.out|apply below_alloc|apply pw_below_drewN|apply below_drew1)|exact HB.out))));have n2_:=Aside0.mk (below_step (by repeat (first|(with_reducible first|exact HB.out|apply below_alloc|apply pw_below_drewN|apply below_drew1)|exact HB.out)) hb);clear HO_11;clear HB;have HO_11:=n0_;have HO379:=n1_;have HB:=n2_;clear n0_ n1_ n2_;(try clear hb);(try clear hb2);(try clear hk);(try clear hi);(try clear ho0);obtain ⟨Ao39,co39,eo39⟩:=Kd.S_slice HO379.out;subst eo39));go_upto_region 13 with (first|(go_at_call 21;(with_reducible refine (stack_Since.calls kj18 _ _ t356 a4 t377 _ ?side1 ?side2 A36.out).mono ?_);(case side1 => repeat (first|exact (Kd.S_reads' HO_11.out).2.2|(with_reducible refine Kd.C_alloc ?_ _)|(with_reducible refine Kd.C_drewN ?_ _)|(with_reducible refine Kd.C_drew ?_)));(case side2 => exact (Kd.S_reads' HO_11.out).2.1);rintro e w38 ⟨v378,rfl,ho0,hb⟩;have n0_:=Aside0.mk (Kd.S_elder' (by (with_reducible repeat (first|apply Kd.S_alloc|apply Kd.S_drewN|apply Kd.S_drew));exact HO_11.out) (Kd.S_base ho0) hb);have n1_:=Aside0.mk (Kd.S_lower (Kd.S_new' ho0 (Kd.S_lt (by (with_reducible repeat (first|apply Kd.S_alloc|apply Kd.S_drewN|apply Kd.S_drew));exact HO_11.out))) (below_size (by repeat (first|(with_reducible first|exact HB.out|apply below_alloc|apply pw_below_drewN|apply below_drew1)|exact HB.out))));have n2_:=Aside0.mk (below_step (by repeat (first|(with_reducible first|exact HB.out|apply below_alloc|apply pw_below_drewN|apply below_drew1)|exact HB.out)) hb);clear HO_11;clear HB;have HO_11:=n0_;have HO379:=n1_;have HB:=n2_;clear n0_ n1_ n2_;(try clear hb);(try clear hb2);(try clear hk);(try clear hi);(try clear ho0);obtain ⟨Ao39,co39,eo39⟩:=Kd.S_slice HO379.out;subst eo39)))
      (try simp only [Act.put,List.setIfInBounds_toArray,List.set_cons_zero,List.set_cons_succ])
      go_cut [107] (fun v107 wc => ∃ (kq : Nat) (x107_36 : Bool),v107 = .bool x107_36 ∧ Aside0 (cofferlaw14_StackParts.j2 kq a4 t356 t377 (wrap64 ((t356.length : Int) - (t377.length : Int))) x107_36 = some r) ∧ Aside0 (kq ≤ kj18) ∧ Aside0 (Kd.S k25 25 wc w.heap.size (fun k_ => some k_ ≠ ((.slice Ao39 t377.length co39) : Value).ownBlock) (.slice Ao14 t356.length co14) t356) ∧ Aside0 (Kd.S k25 25 wc w.heap.size (fun k_ => some k_ ≠ ((.slice Ao14 t356.length co14) : Value).ownBlock) (.slice Ao39 t377.length co39) t377) ∧ Aside0 (Below w.heap.size w wc))
      case first =>
       have H:=HC37.out
       clear HC37
       by_cases c40 : (wrap64 ((t356.length : Int) - (t377.length : Int))) < 0
       ·rw [if_pos c40] at H
        have c40b0 : decide ((wrap64 ((t356.length : Int) - (t377.length : Int))) < 0) = true:=decide_eq_true c40
        clear c40
        (first|rw [c40b0]|(simp only [i64_w,i32_w];rw [c40b0])|rw [c40b1]|skip)
        exact absurd H (by simp [cofferlaw14_StackParts.j2_true,cofferlaw14_StackParts.j5_true])
       ·rw [if_neg c40] at H
        have c40b0 : decide ((wrap64 ((t356.length : Int) - (t377.length : Int))) < 0) = false:=decide_eq_false c40
        clear c40
        (first|rw [c40b0]|(simp only [i64_w,i32_w];rw [c40b0])|rw [c40b1]|skip)
        replace H:=Option.bind_eq_some_iff.mp H
        obtain ⟨t380,A410,H⟩:=H
        replace H : (if t380 = true then (if 0 ≤ (wrap64 ((t356.length : Int) - (t377.length : Int))) then (if (wrap64 ((t356.length : Int) - (t377.length : Int))) ≤ (t356.length : Int) then ((cofferlaw14_alike.f kj18 (t356.drop ((wrap64 ((t356.length : Int) - (t377.length : Int))) : Int).toNat) t377).bind fun t385 => (cofferlaw14_StackParts.j2 kj18 a4 t356 t377 (wrap64 ((t356.length : Int) - (t377.length : Int))) (!t385))) else (none)) else (none)) else (cofferlaw14_StackParts.j2 kj18 a4 t356 t377 (wrap64 ((t356.length : Int) - (t377.length : Int))) true)) = some r:=H
        have A41:=Aside0.mk A410
        clear A410
        by_cases c42 : t380 = true
        ·subst c42
         have H1 : (if 0 ≤ (wrap64 ((t356.length : Int) - (t377.length : Int))) then (if (wrap64 ((t356.length : Int) - (t377.length : Int))) ≤ (t356.length : Int) then ((cofferlaw14_alike.f kj18 (t356.drop ((wrap64 ((t356.length : Int) - (t377.length : Int))) : Int).toNat) t377).bind fun t385 => (cofferlaw14_StackParts.j2 kj18 a4 t356 t377 (wrap64 ((t356.length : Int) - (t377.length : Int))) (!t385))) else (none)) else (none)) = some r:=by rw [if_pos rfl] at H;exact H
         clear H
         have H:=H1
         clear H1
         obtain ⟨ji43,hji43⟩ : ∃ j_ : Int,(wrap64 ((t356.length : Int) - (t377.length : Int))) = j_:=⟨_,rfl⟩
         replace H : (if 0 ≤ (ji43) then (if (ji43) ≤ (t356.length : Int) then ((cofferlaw14_alike.f kj18 (t356.drop ((ji43) : Int).toNat) t377).bind fun t385 => (cofferlaw14_StackParts.j2 kj18 a4 t356 t377 ji43 (!t385))) else (none)) else (none)) = some r:=by first|(rw [hji43] at H;exact H)|(simp only [hji43] at H ⊢;exact H)
         (try rw [hji43] at c40b0)
         (try rw [hji43] at A41)
         have hji43w : (IntKind.i64.wrap ((t356.length : Int) - (t377.length : Int))) = ji43:=(i64_w _).trans hji43
         by_cases c44 : 0 ≤ (ji43)
         ·rw [if_pos c44] at H
          have c44b0:=eq_true c44
          have c44b1 : decide (0 ≤ (ji43)) = true:=decide_eq_true c44
          clear c44
          by_cases c45 : (ji43) ≤ (t356.length : Int)
          ·rw [if_pos c45] at H
           have c45b0:=eq_true c45
           have c45b1 : decide ((ji43) ≤ (t356.length : Int)) = true:=decide_eq_true c45
           clear c45
           obtain ⟨y381,hy381⟩ : ∃ y_ : List (S25),y_ = (t356.drop ((ji43) : Int).toNat):=⟨_,rfl⟩
           replace H : ((cofferlaw14_alike.f kj18 y381 t377).bind fun t385 => (cofferlaw14_StackParts.j2 kj18 a4 t356 t377 ji43 (!t385))) = some r:=by first|(rw [hy381];with_reducible exact H)|(have H2_:=(Option.bind_some _ _).symm.trans H;rw [hy381];with_reducible exact H2_)|(have H2_:=(Option.bind_some _ _).symm.trans H;with_reducible exact H2_)|with_reducible exact H|(rw [hy381];exact H)|exact H
           have Ny381:=Aside0.mk hy381
           clear hy381
           replace H:=Option.bind_eq_some_iff.mp H
           obtain ⟨t385,A460,H⟩:=H
           replace H : (cofferlaw14_StackParts.j2 kj18 a4 t356 t377 ji43 (!t385)) = some r:=H
           have A46:=Aside0.mk A460
           clear A460
           have H':=Aside0.mk H
           clear H
           go_wp2_with (first|(go_at_call 20;(with_reducible refine (cofferlaw14_right.calls kj18 _ _ t377 true _ ?side1 ?side2 A41.out).mono ?_);(case side1 => repeat (first|exact (Kd.S_reads' HO379.out).2.2|(with_reducible refine Kd.C_alloc ?_ _)|(with_reducible refine Kd.C_drewN ?_ _)|(with_reducible refine Kd.C_drew ?_)));(case side2 => exact (Kd.S_reads' HO379.out).2.1);rintro e w' ⟨rfl,⟨nd,rfl⟩⟩;(try first|exact ⟨rfl,_,World.drewN_drewN _ _ _⟩|exact ⟨rfl,_,Eq.trans (World.drewN_drewN _ _ _) (congrArg (World.drewN _) (Nat.add_assoc _ _ _))⟩);have q47 : ((ji43) : Int) ≤ ((t356.length : Int) : Int):=of_decide_eq_true (by first|(with_reducible assumption)|assumption);obtain ⟨i047,hi047,_,hsz47,_⟩:=info_parts info25;have hroom47 : t356.length ≤ co14:=(Kd.S_reads' HO_11.out).2.1;have hC47 : Kd.C k25 _ Ao14 t356.length t356:=(Kd.S_reads' HO_11.out).2.2;have q047 : (0 : Int) ≤ ((ji43) : Int):=of_decide_eq_true (by first|(with_reducible assumption)|assumption);have hcut47:=cut_from (P:=Try.prog) 22 25 .i64 Try.underlying22 hi047 5 hsz47 Ao14 t356.length co14 (ji43) q047 q47;have hr47:=Kd.C_drop (m:=((ji43) : Int).toNat) (c:=co14) hC47 (by omega) hroom47;obtain ⟨A47,hA47⟩ : ∃ A1,A1 = (if co14 = ((ji43) : Int).toNat then Ao14 else (Ao14 : Option Addr).map (·.add (((ji43) : Int).toNat * 5))):=⟨_,rfl⟩;obtain ⟨c47,hc47⟩ : ∃ c1,c1 = co14 - ((ji43) : Int).toNat:=⟨_,rfl⟩;have hy47 : y381.length = t356.length - ((ji43) : Int).toNat:=(by rw [Ny381.out,List.length_drop] <;> omega);rw [show (t356).drop ((ji43) : Int).toNat = y381 from Ny381.out.symm] at hr47;replace hr47 : Kd.C k25 _ A47 y381.length y381:=(by rw [hA47];exact hr47);rw [← hy47,← hA47,← hc47] at hcut47;have HR384:=Aside0.mk hr47;have HC384:=Aside0.mk (show y381.length ≤ c47 from by rw [hy47,hc47];exact Nat.sub_le_sub_right hroom47 _);clear hr47 hC47 hroom47 hi047 hsz47 hc47;have KY47:=Aside0.mk hy47;have KA47:=Aside0.mk hA47;clear hy47 hA47;have KL47:=Aside0.mk (show ((ji43) : Int).toNat ≤ t356.length from by omega);replace q47:=eq_true q47)|(go_at_call 19;(with_reducible refine (cofferlaw14_alike.calls kj18 _ _ y381 _ _ t377 t385 _ ?side1 ?side2 ?side3 ?side4 A46.out).mono ?_);(case side1 => repeat (first|exact (by repeat (first|(with_reducible exact HR384.out)|(with_reducible refine Kd.C_alloc ?_ _)|(with_reducible refine Kd.C_drewN ?_ _)|(with_reducible refine Kd.C_drew ?_)|exact HR384.out))|(with_reducible refine Kd.C_alloc ?_ _)|(with_reducible refine Kd.C_drewN ?_ _)|(with_reducible refine Kd.C_drew ?_)));(case side2 => exact HC384.out);(case side3 => repeat (first|exact (Kd.S_reads' HO379.out).2.2|(with_reducible refine Kd.C_alloc ?_ _)|(with_reducible refine Kd.C_drewN ?_ _)|(with_reducible refine Kd.C_drew ?_)));(case side4 => exact (Kd.S_reads' HO379.out).2.1);rintro e w48 ⟨rfl,hb⟩;have n0_:=Aside0.mk (Kd.S_below (by (with_reducible repeat (first|apply Kd.S_alloc|apply Kd.S_drewN|apply Kd.S_drew));exact HO_11.out) hb);have n1_:=Aside0.mk (Kd.S_below (by (with_reducible repeat (first|apply Kd.S_alloc|apply Kd.S_drewN|apply Kd.S_drew));exact HO379.out) hb);have n2_:=Aside0.mk (Kd.C_below (by repeat (first|(with_reducible exact HR384.out)|(with_reducible refine Kd.C_alloc ?_ _)|(with_reducible refine Kd.C_drewN ?_ _)|(with_reducible refine Kd.C_drew ?_)|exact HR384.out)) hb);have n3_:=Aside0.mk (below_step (by repeat (first|(with_reducible first|exact HB.out|apply below_alloc|apply pw_below_drewN|apply below_drew1)|exact HB.out)) hb);clear HO_11;clear HO379;clear HR384;clear HB;have HO_11:=n0_;have HO379:=n1_;have HR384:=n2_;have HB:=n3_;clear n0_ n1_ n2_ n3_;(try clear hb);(try clear hb2);(try clear hk);(try clear hi)))
           (try subst hji43)
           go_meet
           case rel => exact ⟨_,(!t385),(by first|rfl|(simp;done)|(simp [Go.Proofs.Ytmgiolijjheodaa.Z.bne_nil,Go.Proofs.Ytmgiolijjheodaa.Z.beq_nil];done)|(simp [*];done)),H',⟨by have:=HJ10.out;have:=HJ18.out;first|omega|exact Nat.le_refl _⟩,⟨by (with_reducible repeat (first|apply Kd.S_alloc|apply Kd.S_drewN|apply Kd.S_drew));exact Kd.S_mono HO_11.out (fun _ hk => hk.2)⟩,⟨by (with_reducible repeat (first|apply Kd.S_alloc|apply Kd.S_drewN|apply Kd.S_drew));exact Kd.S_mono HO379.out (fun _ hk => hk.2)⟩,⟨by repeat (first|(with_reducible first|exact HB.out|apply below_alloc|apply pw_below_drewN|apply below_drew1)|exact HB.out)⟩⟩
          ·rw [if_neg c45] at H
           exact absurd H (by simp)
         ·rw [if_neg c44] at H
          exact absurd H (by simp)
        ·replace c42:=Bool.eq_false_iff.mpr c42
         subst c42
         have H1 : (cofferlaw14_StackParts.j2 kj18 a4 t356 t377 (wrap64 ((t356.length : Int) - (t377.length : Int))) true) = some r:=by rw [if_neg (show ¬ (false = true) by decide)] at H;exact H
         clear H
         have H:=H1
         clear H1
         exact absurd H (by simp [cofferlaw14_StackParts.j2_true,cofferlaw14_StackParts.j5_true])
      case rest =>
       clear HC37
       try clear c1
       try clear c2
       try clear p2
       try clear c4
       try clear q4
       try clear p6
       try clear c7
       try clear c17
       try clear c17b0
       try clear c17b1
       try clear c18
       try clear c18b0
       try clear c18b1
       try clear c20
       try clear c23
       try clear c23b0
       try clear c23b1
       try clear c24
       try clear c24b0
       try clear c24b1
       try clear c26
       try clear c28
       try clear c40
       try clear c40b0
       try clear c40b1
       try clear c42
       try clear c44
       try clear c44b0
       try clear c44b1
       try clear c45
       try clear c45b0
       try clear c45b1
       try clear c47
       try clear q47
       try clear p2
       try clear q047
       try clear q47
       obtain ⟨kq,x107_36,rfl,HA,HJ36,HO_11,HO_20,HB⟩:=hcut
       cases kq with
       | zero => exact absurd HA.out (by simp [cofferlaw14_StackParts.j2])
       | succ kj36 =>
        have H:=HA.out
        clear HA
        simp only [cofferlaw14_StackParts.j2] at H
        by_cases c49 : x107_36 = true
        ·subst c49
         have H1 : (none) = some r:=by rw [if_pos rfl] at H;exact H
         clear H
         have H:=H1
         clear H1
         exact absurd H (by simp)
        ·replace c49:=Bool.eq_false_iff.mpr c49
         subst c49
         have H1 : (cofferlaw14_StackParts.l0 kj36 a4 t356 t377 (wrap64 ((t356.length : Int) - (t377.length : Int))) 0) = some r:=by rw [if_neg (show ¬ (false = true) by decide)] at H;exact H
         clear H
         have H:=H1
         clear H1
         have H':=Aside0.mk H
         clear H
         go_wp2
         repeat (go_quiet (fail);try go_wp2)
         go_loopg [22] kj36 (fun kq v22 w' => ∃ (x22_4 : Int),v22 = .int .i64 x22_4 ∧ Aside0 (cofferlaw14_StackParts.l0 kq a4 t356 t377 (wrap64 ((t356.length : Int) - (t377.length : Int))) x22_4 = some r) ∧ Aside0 (kq ≤ kj36) ∧ Aside0 (Kd.S k25 25 w' w.heap.size (fun k_ => some k_ ≠ ((.slice Ao39 t377.length co39) : Value).ownBlock) (.slice Ao14 t356.length co14) t356) ∧ Aside0 (Kd.S k25 25 w' w.heap.size (fun k_ => some k_ ≠ ((.slice Ao14 t356.length co14) : Value).ownBlock) (.slice Ao39 t377.length co39) t377) ∧ Aside0 (Below w.heap.size w w'))
         case atStart => exact ⟨(0),(by first|rfl|(simp;done)|(simp [Go.Proofs.Ytmgiolijjheodaa.Z.bne_nil,Go.Proofs.Ytmgiolijjheodaa.Z.beq_nil];done)|(simp [*];done)),H',⟨Nat.le_refl _⟩,⟨by (with_reducible repeat (first|apply Kd.S_alloc|apply Kd.S_drewN|apply Kd.S_drew));exact HO_11.out⟩,⟨by (with_reducible repeat (first|apply Kd.S_alloc|apply Kd.S_drewN|apply Kd.S_drew));exact HO_20.out⟩,⟨by repeat (first|(with_reducible first|exact HB.out|apply below_alloc|apply pw_below_drewN|apply below_drew1)|exact HB.out)⟩⟩
         case round =>
          clear H'
          try clear c1
          try clear c2
          try clear p2
          try clear c4
          try clear q4
          try clear p6
          try clear c7
          try clear c17
          try clear c17b0
          try clear c17b1
          try clear c18
          try clear c18b0
          try clear c18b1
          try clear c20
          try clear c23
          try clear c23b0
          try clear c23b1
          try clear c24
          try clear c24b0
          try clear c24b1
          try clear c26
          try clear c28
          try clear c40
          try clear c40b0
          try clear c40b1
          try clear c42
          try clear c44
          try clear c44b0
          try clear c44b1
          try clear c45
          try clear c45b0
          try clear c45b1
          try clear c47
          try clear q47
          try clear c49
          try clear p2
          try clear p6
          try clear q047
          try clear q4
          try clear q47
          obtain ⟨x22_4,rfl,HA,HK4,HO_11,HO_20,HB⟩:=hrel
          cases gk with
          | zero => exact absurd HA.out (by simp [cofferlaw14_StackParts.l0])
          | succ k4 =>
           have H:=HA.out
           clear HA
           simp only [cofferlaw14_StackParts.l0] at H
           by_cases c50 : x22_4 < (wrap64 ((t356.length : Int) - (t377.length : Int)))
           ·rw [if_pos c50] at H
            have c50b0 : decide (x22_4 < (wrap64 ((t356.length : Int) - (t377.length : Int)))) = true:=decide_eq_true c50
            clear c50
            by_cases c51 : 0 ≤ x22_4
            ·rw [if_pos c51] at H
             have c51b0 : decide (0 ≤ x22_4) = true:=decide_eq_true c51
             clear c51
             by_cases c52 : x22_4 < (t356.length : Int)
             ·rw [if_pos c52] at H
              have c52b0 : decide (x22_4 < (t356.length : Int)) = true:=decide_eq_true c52
              clear c52
              by_cases c53 : ((rd_T25 t356 x22_4).f1) ≥ a4
              ·rw [if_pos c53] at H
               exact absurd H (by simp)
              ·rw [if_neg c53] at H
               have c53b0 : decide (a4 ≤ ((rd_T25 t356 x22_4).f1)) = false:=decide_eq_false c53
               clear c53
               have H':=Aside0.mk H
               clear H
               have p386 : 0 ≤ (x22_4 : Int):=of_decide_eq_true (by first|(with_reducible assumption)|assumption)
               have q386 : x22_4 < (t356.length : Int):=of_decide_eq_true (by first|(with_reducible assumption)|assumption)
               obtain ⟨ad386,A386_4,c386_4,e386,hx386_0,hx386_1,hx386_2,hx386_3,hx386_4,hl386_4,hi386_4⟩:=at_T25 (Kd.S_reads' HO_11.out).2.2 x22_4 p386 q386
               cases e386
               obtain ⟨ce386,hce386,hMe386,hcc386⟩:=Kd.S_get HO_11.out z25 x22_4 p386 (by first|exact q386|exact of_decide_eq_true (by first|(with_reducible assumption)|assumption)|(have e_:=(Kd.S_reads' HO_11.out).1;omega))
               obtain ⟨ve386_4,rfl,ge386_4⟩:=k25_openM hMe386
               have hv386_4:=hcc386 4 _ rfl
               rw [add_field _ _ 4 (by omega)] at hv386_4
               replace hv386_4:=Option.some.inj (hv386_4.symm.trans hx386_4)
               rw [hv386_4] at ge386_4
               have HL386_4:=Aside0.mk (show Kd.R k49 49 _ _ _ _ ((rd_T25 t356 x22_4).f4) from ge386_4)
               clear hv386_4 ge386_4
               clear hcc386 hce386
               have HR386_4:=Aside0.mk hi386_4
               have HC386_4:=Aside0.mk hl386_4
               clear hi386_4 hl386_4
               replace p386:=eq_true p386
               replace q386:=eq_true q386
               go_wp2
               repeat (go_quiet (fail);try go_wp2)
               go_roundg k4
               case measure => have:=HJ10.out;have:=HJ18.out;have:=HJ36.out;have:=HK4.out;omega
               case rel => exact ⟨(wrap64 (x22_4 + 1)),(by first|rfl|(simp;done)|(simp [Go.Proofs.Ytmgiolijjheodaa.Z.bne_nil,Go.Proofs.Ytmgiolijjheodaa.Z.beq_nil];done)|(simp [*];done)),H',⟨by have:=HJ10.out;have:=HJ18.out;have:=HJ36.out;have:=HK4.out;omega⟩,⟨by (with_reducible repeat (first|apply Kd.S_alloc|apply Kd.S_drewN|apply Kd.S_drew));exact HO_11.out⟩,⟨by (with_reducible repeat (first|apply Kd.S_alloc|apply Kd.S_drewN|apply Kd.S_drew));exact HO_20.out⟩,⟨by repeat (first|(with_reducible first|exact HB.out|apply below_alloc|apply pw_below_drewN|apply below_drew1)|exact HB.out)⟩⟩
             ·rw [if_neg c52] at H
              exact absurd H (by simp)
            ·rw [if_neg c51] at H
             exact absurd H (by simp)
           ·rw [if_neg c50] at H
            have c50b0 : decide (x22_4 < (wrap64 ((t356.length : Int) - (t377.length : Int)))) = false:=decide_eq_false c50
            clear c50
            have H':=Aside0.mk H
            clear H
            go_wp2
            repeat (go_quiet (fail);try go_wp2)
            go_loopg [23] k4 (fun kq v23 w' => ∃ (x23_5 : Int),v23 = .int .i64 x23_5 ∧ Aside0 (cofferlaw14_StackParts.l1 kq a4 t356 t377 x23_5 = some r) ∧ Aside0 (kq ≤ k4) ∧ Aside0 (Kd.S k25 25 w' w.heap.size (fun k_ => some k_ ≠ ((.slice Ao39 t377.length co39) : Value).ownBlock) (.slice Ao14 t356.length co14) t356) ∧ Aside0 (Kd.S k25 25 w' w.heap.size (fun k_ => some k_ ≠ ((.slice Ao14 t356.length co14) : Value).ownBlock) (.slice Ao39 t377.length co39) t377) ∧ Aside0 (Below w.heap.size w w'))
            case atStart => exact ⟨((wrap64 ((t356.length : Int) - (t377.length : Int)))),(by first|rfl|(simp;done)|(simp [Go.Proofs.Ytmgiolijjheodaa.Z.bne_nil,Go.Proofs.Ytmgiolijjheodaa.Z.beq_nil];done)|(simp [*];done)),H',⟨Nat.le_refl _⟩,⟨by (with_reducible repeat (first|apply Kd.S_alloc|apply Kd.S_drewN|apply Kd.S_drew));exact HO_11.out⟩,⟨by (with_reducible repeat (first|apply Kd.S_alloc|apply Kd.S_drewN|apply Kd.S_drew));exact HO_20.out⟩,⟨by repeat (first|(with_reducible first|exact HB.out|apply below_alloc|apply pw_below_drewN|apply below_drew1)|exact HB.out)⟩⟩
            case round =>
             clear H'
             try clear c1
             try clear c2
             try clear p2
             try clear c3
             try clear p3
             try clear q3
             try clear hx3
             try clear c4
             try clear q4
             try clear c5
             try clear p6
             try clear c7
             try clear c17
             try clear c17b0
             try clear c17b1
             try clear c18
             try clear c18b0
             try clear c18b1
             try clear c20
             try clear c23
             try clear c23b0
             try clear c23b1
             try clear c24
             try clear c24b0
             try clear c24b1
             try clear c26
             try clear c28
             try clear c38
             try clear p38
             try clear q38
             try clear hx38
             try clear c40
             try clear c40b0
             try clear c40b1
             try clear c42
             try clear c44
             try clear c44b0
             try clear c44b1
             try clear c45
             try clear c45b0
             try clear c45b1
             try clear c47
             try clear q47
             try clear c49
             try clear c50
             try clear c50b0
             try clear c51
             try clear c51b0
             try clear c52
             try clear c52b0
             try clear c53
             try clear c53b0
             try clear hx386_0
             try clear hx386_1
             try clear hx386_2
             try clear hx386_3
             try clear hx386_4
             try clear p2
             try clear p386
             try clear p6
             try clear q047
             try clear q386
             try clear q4
             try clear q47
             obtain ⟨x23_5,rfl,HA,HK5,HO_11,HO_20,HB⟩:=hrel
             cases gk with
             | zero => exact absurd HA.out (by simp [cofferlaw14_StackParts.l1])
             | succ k5 =>
              have H:=HA.out
              clear HA
              simp only [cofferlaw14_StackParts.l1] at H
              by_cases c54 : x23_5 < (t356.length : Int)
              ·rw [if_pos c54] at H
               have c54b0 : decide (x23_5 < (t356.length : Int)) = true:=decide_eq_true c54
               clear c54
               by_cases c55 : 0 ≤ x23_5
               ·rw [if_pos c55] at H
                have c55b0 : decide (0 ≤ x23_5) = true:=decide_eq_true c55
                clear c55
                by_cases c56 : ((rd_T25 t356 x23_5).f1) < a4
                ·rw [if_pos c56] at H
                 exact absurd H (by simp)
                ·rw [if_neg c56] at H
                 have c56b0 : decide (((rd_T25 t356 x23_5).f1) < a4) = false:=decide_eq_false c56
                 clear c56
                 have H':=Aside0.mk H
                 clear H
                 have p387 : 0 ≤ (x23_5 : Int):=of_decide_eq_true (by first|(with_reducible assumption)|assumption)
                 have q387 : x23_5 < (t356.length : Int):=of_decide_eq_true (by first|(with_reducible assumption)|assumption)
                 obtain ⟨ad387,A387_4,c387_4,e387,hx387_0,hx387_1,hx387_2,hx387_3,hx387_4,hl387_4,hi387_4⟩:=at_T25 (Kd.S_reads' HO_11.out).2.2 x23_5 p387 q387
                 cases e387
                 obtain ⟨ce387,hce387,hMe387,hcc387⟩:=Kd.S_get HO_11.out z25 x23_5 p387 (by first|exact q387|exact of_decide_eq_true (by first|(with_reducible assumption)|assumption)|(have e_:=(Kd.S_reads' HO_11.out).1;omega))
                 obtain ⟨ve387_4,rfl,ge387_4⟩:=k25_openM hMe387
                 have hv387_4:=hcc387 4 _ rfl
                 rw [add_field _ _ 4 (by omega)] at hv387_4
                 replace hv387_4:=Option.some.inj (hv387_4.symm.trans hx387_4)
                 rw [hv387_4] at ge387_4
                 have HL387_4:=Aside0.mk (show Kd.R k49 49 _ _ _ _ ((rd_T25 t356 x23_5).f4) from ge387_4)
                 clear hv387_4 ge387_4
                 clear hcc387 hce387
                 have HR387_4:=Aside0.mk hi387_4
                 have HC387_4:=Aside0.mk hl387_4
                 clear hi387_4 hl387_4
                 replace p387:=eq_true p387
                 replace q387:=eq_true q387
                 go_wp2
                 repeat (go_quiet (fail);try go_wp2)
                 go_roundg k5
                 case measure => have:=HJ10.out;have:=HJ18.out;have:=HJ36.out;have:=HK4.out;have:=HK5.out;omega
                 case rel => exact ⟨(wrap64 (x23_5 + 1)),(by first|rfl|(simp;done)|(simp [Go.Proofs.Ytmgiolijjheodaa.Z.bne_nil,Go.Proofs.Ytmgiolijjheodaa.Z.beq_nil];done)|(simp [*];done)),H',⟨by have:=HJ10.out;have:=HJ18.out;have:=HJ36.out;have:=HK4.out;have:=HK5.out;omega⟩,⟨by (with_reducible repeat (first|apply Kd.S_alloc|apply Kd.S_drewN|apply Kd.S_drew));exact HO_11.out⟩,⟨by (with_reducible repeat (first|apply Kd.S_alloc|apply Kd.S_drewN|apply Kd.S_drew));exact HO_20.out⟩,⟨by repeat (first|(with_reducible first|exact HB.out|apply below_alloc|apply pw_below_drewN|apply below_drew1)|exact HB.out)⟩⟩
               ·rw [if_neg c55] at H
                exact absurd H (by simp)
              ·rw [if_neg c54] at H
               have c54b0 : decide (x23_5 < (t356.length : Int)) = false:=decide_eq_false c54
               clear c54
               replace H:=Option.bind_eq_some_iff.mp H
               obtain ⟨t388,A570,H⟩:=H
               replace H : ((stack_Rows.f t377).bind fun t391 => (if (t388.length : Int) = (t356.length : Int) then (cofferlaw14_StackParts.j5 k5 t356 t388 t391 ((t391.length : Int) != (t377.length : Int))) else (cofferlaw14_StackParts.j5 k5 t356 t388 t391 true))) = some r:=H
               have A57:=Aside0.mk A570
               clear A570
               replace H:=Option.bind_eq_some_iff.mp H
               obtain ⟨t391,A580,H⟩:=H
               replace H : (if (t388.length : Int) = (t356.length : Int) then (cofferlaw14_StackParts.j5 k5 t356 t388 t391 ((t391.length : Int) != (t377.length : Int))) else (cofferlaw14_StackParts.j5 k5 t356 t388 t391 true)) = some r:=H
               have A58:=Aside0.mk A580
               clear A580
               have HC59:=Aside0.mk H
               clear H
               go_upto_region 27 with (first|(go_at_call 22;(with_reducible refine (stack_Rows.calls _ _ t356 t388 _ ?side1 ?side2 A57.out).mono ?_);(case side1 => repeat (first|exact (Kd.S_reads' HO_11.out).2.2|(with_reducible refine Kd.C_alloc ?_ _)|(with_reducible refine Kd.C_drewN ?_ _)|(with_reducible refine Kd.C_drew ?_)));(case side2 => exact (Kd.S_reads' HO_11.out).2.1);rintro e w60 ⟨v389,rfl,ho0,hb⟩;have n0_:=Aside0.mk (Kd.S_below (by (with_reducible repeat (first|apply Kd.S_alloc|apply Kd.S_drewN|apply Kd.S_drew));exact HO_11.out) hb);have n1_:=Aside0.mk (Kd.S_below (by (with_reducible repeat (first|apply Kd.S_alloc|apply Kd.S_drewN|apply Kd.S_drew));exact HO_20.out) hb);have n2_:=Aside0.mk (Kd.R_lower ho0 (below_size (by repeat (first|(with_reducible first|exact HB.out|apply below_alloc|apply pw_below_drewN|apply below_drew1)|exact HB.out))));have n3_:=Aside0.mk (below_step (by repeat (first|(with_reducible first|exact HB.out|apply below_alloc|apply pw_below_drewN|apply below_drew1)|exact HB.out)) hb);clear HO_11;clear HO_20;clear HB;have HO_11:=n0_;have HO_20:=n1_;have HO390:=n2_;have HB:=n3_;clear n0_ n1_ n2_ n3_;(try clear hb);(try clear hb2);(try clear hk);(try clear hi);(try clear ho0))|(go_at_call 22;(with_reducible refine (stack_Rows.calls _ _ t377 t391 _ ?side1 ?side2 A58.out).mono ?_);(case side1 => repeat (first|exact (Kd.S_reads' HO_20.out).2.2|(with_reducible refine Kd.C_alloc ?_ _)|(with_reducible refine Kd.C_drewN ?_ _)|(with_reducible refine Kd.C_drew ?_)));(case side2 => exact (Kd.S_reads' HO_20.out).2.1);rintro e w61 ⟨v392,rfl,ho0,hb⟩;have n0_:=Aside0.mk (Kd.S_below (by (with_reducible repeat (first|apply Kd.S_alloc|apply Kd.S_drewN|apply Kd.S_drew));exact HO_11.out) hb);have n1_:=Aside0.mk (Kd.S_below (by (with_reducible repeat (first|apply Kd.S_alloc|apply Kd.S_drewN|apply Kd.S_drew));exact HO_20.out) hb);have n2_:=Aside0.mk (Kd.R_elder' (by (with_reducible repeat (first|apply Kd.R_alloc|apply Kd.R_drewN|apply Kd.R_drew));exact HO390.out) (Kd.R_base ho0) hb);have n3_:=Aside0.mk (Kd.R_lower (Kd.R_new' ho0 (Kd.R_lt (by (with_reducible repeat (first|apply Kd.R_alloc|apply Kd.R_drewN|apply Kd.R_drew));exact HO390.out))) (below_size (by repeat (first|(with_reducible first|exact HB.out|apply below_alloc|apply pw_below_drewN|apply below_drew1)|exact HB.out))));have n4_:=Aside0.mk (below_step (by repeat (first|(with_reducible first|exact HB.out|apply below_alloc|apply pw_below_drewN|apply below_drew1)|exact HB.out)) hb);clear HO_11;clear HO_20;clear HO390;clear HB;have HO_11:=n0_;have HO_20:=n1_;have HO390:=n2_;have HO393:=n3_;have HB:=n4_;clear n0_ n1_ n2_ n3_ n4_;(try clear hb);(try clear hb2);(try clear hk);(try clear hi);(try clear ho0)))
               repeat (go_quiet (first|(go_at_call 22;(with_reducible refine (stack_Rows.calls _ _ t356 t388 _ ?side1 ?side2 A57.out).mono ?_);(case side1 => repeat (first|exact (Kd.S_reads' HO_11.out).2.2|(with_reducible refine Kd.C_alloc ?_ _)|(with_reducible refine Kd.C_drewN ?_ _)|(with_reducible refine Kd.C_drew ?_)));(case side2 => exact (Kd.S_reads' HO_11.out).2.1);rintro e w60 ⟨v389,rfl,ho0,hb⟩;have n0_:=Aside0.mk (Kd.S_below (by (with_reducible repeat (first|apply Kd.S_alloc|apply Kd.S_drewN|apply Kd.S_drew));exact HO_11.out) hb);have n1_:=Aside0.mk (Kd.S_below (by (with_reducible repeat (first|apply Kd.S_alloc|apply Kd.S_drewN|apply Kd.S_drew));exact HO_20.out) hb);have n2_:=Aside0.mk (Kd.R_lower ho0 (below_size (by repeat (first|(with_reducible first|exact HB.out|apply below_alloc|apply pw_below_drewN|apply below_drew1)|exact HB.out))));have n3_:=Aside0.mk (below_step (by repeat (first|(with_reducible first|exact HB.out|apply below_alloc|apply pw_below_drewN|apply below_drew1)|exact HB.out)) hb);clear HO_11;clear HO_20;clear HB;have HO_11:=n0_;have HO_20:=n1_;have HO390:=n2_;have HB:=n3_;clear n0_ n1_ n2_ n3_;(try clear hb);(try clear hb2);(try clear hk);(try clear hi);(try clear ho0))|(go_at_call 22;(with_reducible refine (stack_Rows.calls _ _ t377 t391 _ ?side1 ?side2 A58.out).mono ?_);(case side1 => repeat (first|exact (Kd.S_reads' HO_20.out).2.2|(with_reducible refine Kd.C_alloc ?_ _)|(with_reducible refine Kd.C_drewN ?_ _)|(with_reducible refine Kd.C_drew ?_)));(case side2 => exact (Kd.S_reads' HO_20.out).2.1);rintro e w61 ⟨v392,rfl,ho0,hb⟩;have n0_:=Aside0.mk (Kd.S_below (by (with_reducible repeat (first|apply Kd.S_alloc|apply Kd.S_drewN|apply Kd.S_drew));exact HO_11.out) hb);have n1_:=Aside0.mk (Kd.S_below (by (with_reducible repeat (first|apply Kd.S_alloc|apply Kd.S_drewN|apply Kd.S_drew));exact HO_20.out) hb);have n2_:=Aside0.mk (Kd.R_elder' (by (with_reducible repeat (first|apply Kd.R_alloc|apply Kd.R_drewN|apply Kd.R_drew));exact HO390.out) (Kd.R_base ho0) hb);have n3_:=Aside0.mk (Kd.R_lower (Kd.R_new' ho0 (Kd.R_lt (by (with_reducible repeat (first|apply Kd.R_alloc|apply Kd.R_drewN|apply Kd.R_drew));exact HO390.out))) (below_size (by repeat (first|(with_reducible first|exact HB.out|apply below_alloc|apply pw_below_drewN|apply below_drew1)|exact HB.out))));have n4_:=Aside0.mk (below_step (by repeat (first|(with_reducible first|exact HB.out|apply below_alloc|apply pw_below_drewN|apply below_drew1)|exact HB.out)) hb);clear HO_11;clear HO_20;clear HO390;clear HB;have HO_11:=n0_;have HO_20:=n1_;have HO390:=n2_;have HO393:=n3_;have HB:=n4_;clear n0_ n1_ n2_ n3_ n4_;(try clear hb);(try clear hb2);(try clear hk);(try clear hi);(try clear ho0)));go_upto_region 27 with (first|(go_at_call 22;(with_reducible refine (stack_Rows.calls _ _ t356 t388 _ ?side1 ?side2 A57.out).mono ?_);(case side1 => repeat (first|exact (Kd.S_reads' HO_11.out).2.2|(with_reducible refine Kd.C_alloc ?_ _)|(with_reducible refine Kd.C_drewN ?_ _)|(with_reducible refine Kd.C_drew ?_)));(case side2 => exact (Kd.S_reads' HO_11.out).2.1);rintro e w60 ⟨v389,rfl,ho0,hb⟩;have n0_:=Aside0.mk (Kd.S_below (by (with_reducible repeat (first|apply Kd.S_alloc|apply Kd.S_drewN|apply Kd.S_drew));exact HO_11.out) hb);have n1_:=Aside0.mk (Kd.S_below (by (with_reducible repeat (first|apply Kd.S_alloc|apply Kd.S_drewN|apply Kd.S_drew));exact HO_20.out) hb);have n2_:=Aside0.mk (Kd.R_lower ho0 (below_size (by repeat (first|(with_reducible first|exact HB.out|apply below_alloc|apply pw_below_drewN|apply below_drew1)|exact HB.out))));have n3_:=Aside0.mk (below_step (by repeat (first|(with_reducible first|exact HB.out|apply below_alloc|apply pw_below_drewN|apply below_drew1)|exact HB.out)) hb);clear HO_11;clear HO_20;clear HB;have HO_11:=n0_;have HO_20:=n1_;have HO390:=n2_;have HB:=n3_;clear n0_ n1_ n2_ n3_;(try clear hb);(try clear hb2);(try clear hk);(try clear hi);(try clear ho0))|(go_at_call 22;(with_reducible refine (stack_Rows.calls _ _ t377 t391 _ ?side1 ?side2 A58.out).mono ?_);(case side1 => repeat (first|exact (Kd.S_reads' HO_20.out).2.2|(with_reducible refine Kd.C_alloc ?_ _)|(with_reducible refine Kd.C_drewN ?_ _)|(with_reducible refine Kd.C_drew ?_)));(case side2 => exact (Kd.S_reads' HO_20.out).2.1);rintro e w61 ⟨v392,rfl,ho0,hb⟩;have n0_:=Aside0.mk (Kd.S_below (by (with_reducible repeat (first|apply Kd.S_alloc|apply Kd.S_drewN|apply Kd.S_drew));exact HO_11.out) hb);have n1_:=Aside0.mk (Kd.S_below (by (with_reducible repeat (first|apply Kd.S_alloc|apply Kd.S_drewN|apply Kd.S_drew));exact HO_20.out) hb);have n2_:=Aside0.mk (Kd.R_elder' (by (with_reducible repeat (first|apply Kd.R_alloc|apply Kd.R_drewN|apply Kd.R_drew));exact HO390.out) (Kd.R_base ho0) hb);have n3_:=Aside0.mk (Kd.R_lower (Kd.R_new' ho0 (Kd.R_lt (by (with_reducible repeat (first|apply Kd.R_alloc|apply Kd.R_drewN|apply Kd.R_drew));exact HO390.out))) (below_size (by repeat (first|(with_reducible first|exact HB.out|apply below_alloc|apply pw_below_drewN|apply below_drew1)|exact HB.out))));have n4_:=Aside0.mk (below_step (by repeat (first|(with_reducible first|exact HB.out|apply below_alloc|apply pw_below_drewN|apply below_drew1)|exact HB.out)) hb);clear HO_11;clear HO_20;clear HO390;clear HB;have HO_11:=n0_;have HO_20:=n1_;have HO390:=n2_;have HO393:=n3_;have HB:=n4_;clear n0_ n1_ n2_ n3_ n4_;(try clear hb);(try clear hb2);(try clear hk);(try clear hi);(try clear ho0))))
               (try simp only [Act.put,List.setIfInBounds_toArray,List.set_cons_zero,List.set_cons_succ])
               go_cut [149] (fun v149 wc => ∃ (kq : Nat) (x149_58 : Bool),v149 = .bool x149_58 ∧ Aside0 (cofferlaw14_StackParts.j5 kq t356 t388 t391 x149_58 = some r) ∧ Aside0 (kq ≤ k5) ∧ Aside0 (Kd.S k25 25 wc w.heap.size (fun _ => True) (.slice Ao14 t356.length co14) t356) ∧ Aside0 (Kd.R k43 43 wc w.heap.size (fun k_ => some k_ ≠ (v392 : Value).ownBlock) v389 t388) ∧ Aside0 (Kd.R k43 43 wc w.heap.size (fun k_ => some k_ ≠ (v389 : Value).ownBlock) v392 t391) ∧ Aside0 (Below w.heap.size w wc))
               case first =>
                have H:=HC59.out
                clear HC59
                by_cases c62 : (t388.length : Int) = (t356.length : Int)
                ·rw [if_pos c62] at H
                 have c62b0 : ((t388.length : Int) == (t356.length : Int)) = true:=beq_iff_eq.mpr c62
                 have c62b1 : ((t388.length : Int) != (t356.length : Int)) = false:=bne_eq_false_iff_eq.mpr c62
                 have c62b2 : (t388.length == t356.length) = true:=by first|simpa using c62|(simp at c62 ⊢;omega)
                 clear c62
                 (first|rw [c62b0]|(simp only [i64_w,i32_w];rw [c62b0])|rw [c62b1]|skip)
                 have H':=Aside0.mk H
                 clear H
                 obtain ⟨Ao63,co63,eo63⟩:=Kd.R_slice HO390.out
                 subst eo63
                 obtain ⟨Ao64,co64,eo64⟩:=Kd.R_slice HO393.out
                 subst eo64
                 go_wp2
                 repeat (go_quiet (fail);try go_wp2)
                 go_meet
                 case rel => exact ⟨_,(((t391.length : Int) != (t377.length : Int))),(by first|rfl|(simp;done)|(simp [Go.Proofs.Ytmgiolijjheodaa.Z.bne_nil,Go.Proofs.Ytmgiolijjheodaa.Z.beq_nil];done)|(simp [*];done)),H',⟨by have:=HJ10.out;have:=HJ18.out;have:=HJ36.out;have:=HK4.out;have:=HK5.out;first|omega|exact Nat.le_refl _⟩,⟨by (with_reducible repeat (first|apply Kd.S_alloc|apply Kd.S_drewN|apply Kd.S_drew));exact Kd.S_mono HO_11.out (fun _ hk => trivial)⟩,⟨by (with_reducible repeat (first|apply Kd.R_alloc|apply Kd.R_drewN|apply Kd.R_drew));exact Kd.R_mono HO390.out (fun _ hk => hk.2)⟩,⟨by (with_reducible repeat (first|apply Kd.R_alloc|apply Kd.R_drewN|apply Kd.R_drew));exact Kd.R_mono HO393.out (fun _ hk => hk.2)⟩,⟨by repeat (first|(with_reducible first|exact HB.out|apply below_alloc|apply pw_below_drewN|apply below_drew1)|exact HB.out)⟩⟩
                ·rw [if_neg c62] at H
                 have c62b0 : ((t388.length : Int) == (t356.length : Int)) = false:=beq_eq_false_iff_ne.mpr c62
                 have c62b1 : ((t388.length : Int) != (t356.length : Int)) = true:=bne_iff_ne.mpr c62
                 have c62b2 : (t388.length == t356.length) = false:=by first|simpa using c62|(simp at c62 ⊢;omega)
                 (first|rw [c62b0]|(simp only [i64_w,i32_w];rw [c62b0])|rw [c62b1]|skip)
                 exact absurd H (by simp [cofferlaw14_StackParts.j2_true,cofferlaw14_StackParts.j5_true])
               case rest =>
                clear HC59
                try clear c1
                try clear c2
                try clear p2
                try clear c3
                try clear p3
                try clear q3
                try clear hx3
                try clear c4
                try clear q4
                try clear c5
                try clear c6
                try clear p6
                try clear c7
                try clear c17
                try clear c17b0
                try clear c17b1
                try clear c18
                try clear c18b0
                try clear c18b1
                try clear c20
                try clear c23
                try clear c23b0
                try clear c23b1
                try clear c24
                try clear c24b0
                try clear c24b1
                try clear c26
                try clear c28
                try clear c38
                try clear p38
                try clear q38
                try clear hx38
                try clear c40
                try clear c40b0
                try clear c40b1
                try clear c42
                try clear c44
                try clear c44b0
                try clear c44b1
                try clear c45
                try clear c45b0
                try clear c45b1
                try clear c47
                try clear q47
                try clear c49
                try clear c50
                try clear c50b0
                try clear c51
                try clear c51b0
                try clear c52
                try clear c52b0
                try clear c53
                try clear c53b0
                try clear c54
                try clear c54b0
                try clear c55
                try clear c55b0
                try clear c56
                try clear c56b0
                try clear c62
                try clear c62b0
                try clear c62b1
                try clear c62b2
                try clear p64
                try clear hx386_0
                try clear hx386_1
                try clear hx386_2
                try clear hx386_3
                try clear hx386_4
                try clear hx387_0
                try clear hx387_1
                try clear hx387_2
                try clear hx387_3
                try clear hx387_4
                try clear p2
                try clear p3
                try clear p38
                try clear p386
                try clear p387
                try clear p6
                try clear q047
                try clear q3
                try clear q38
                try clear q386
                try clear q387
                try clear q4
                try clear q47
                obtain ⟨kq,x149_58,rfl,HA,HJ58,HO_11,HO_24,HO_25,HB⟩:=hcut
                cases kq with
                | zero => exact absurd HA.out (by simp [cofferlaw14_StackParts.j5])
                | succ kj58 =>
                 have H:=HA.out
                 clear HA
                 simp only [cofferlaw14_StackParts.j5] at H
                 by_cases c66 : x149_58 = true
                 ·subst c66
                  have H1 : (none) = some r:=by rw [if_pos rfl] at H;exact H
                  clear H
                  have H:=H1
                  clear H1
                  exact absurd H (by simp)
                 ·replace c66:=Bool.eq_false_iff.mpr c66
                  subst c66
                  have H1 : (cofferlaw14_StackParts.l2 kj58 t356 t388 t391 0) = some r:=by rw [if_neg (show ¬ (false = true) by decide)] at H;exact H
                  clear H
                  have H:=H1
                  clear H1
                  have H':=Aside0.mk H
                  clear H
                  go_wp2
                  repeat (go_quiet (fail);try go_wp2)
                  go_loopg [26] kj58 (fun kq v26 w' => ∃ (x26_7 : Int),v26 = .int .i64 x26_7 ∧ Aside0 (cofferlaw14_StackParts.l2 kq t356 t388 t391 x26_7 = some r) ∧ Aside0 (kq ≤ kj58) ∧ Aside0 (Kd.S k25 25 w' w.heap.size (fun _ => True) (.slice Ao14 t356.length co14) t356) ∧ Aside0 (Kd.R k43 43 w' w.heap.size (fun k_ => some k_ ≠ (v392 : Value).ownBlock) v389 t388) ∧ Aside0 (Kd.R k43 43 w' w.heap.size (fun k_ => some k_ ≠ (v389 : Value).ownBlock) v392 t391) ∧ Aside0 (Below w.heap.size w w'))
                  case atStart => exact ⟨(0),(by first|rfl|(simp;done)|(simp [Go.Proofs.Ytmgiolijjheodaa.Z.bne_nil,Go.Proofs.Ytmgiolijjheodaa.Z.beq_nil];done)|(simp [*];done)),H',⟨Nat.le_refl _⟩,⟨by (with_reducible repeat (first|apply Kd.S_alloc|apply Kd.S_drewN|apply Kd.S_drew));exact HO_11.out⟩,⟨by (with_reducible repeat (first|apply Kd.R_alloc|apply Kd.R_drewN|apply Kd.R_drew));exact HO_24.out⟩,⟨by (with_reducible repeat (first|apply Kd.R_alloc|apply Kd.R_drewN|apply Kd.R_drew));exact HO_25.out⟩,⟨by repeat (first|(with_reducible first|exact HB.out|apply below_alloc|apply pw_below_drewN|apply below_drew1)|exact HB.out)⟩⟩
                  case round =>
                   clear H'
                   try clear c1
                   try clear c2
                   try clear p2
                   try clear c3
                   try clear p3
                   try clear q3
                   try clear hx3
                   try clear c4
                   try clear q4
                   try clear c5
                   try clear c6
                   try clear p6
                   try clear c7
                   try clear c17
                   try clear c17b0
                   try clear c17b1
                   try clear c18
                   try clear c18b0
                   try clear c18b1
                   try clear c20
                   try clear c23
                   try clear c23b0
                   try clear c23b1
                   try clear c24
                   try clear c24b0
                   try clear c24b1
                   try clear c26
                   try clear c28
                   try clear c38
                   try clear p38
                   try clear q38
                   try clear hx38
                   try clear c40
                   try clear c40b0
                   try clear c40b1
                   try clear c42
                   try clear c44
                   try clear c44b0
                   try clear c44b1
                   try clear c45
                   try clear c45b0
                   try clear c45b1
                   try clear c47
                   try clear q47
                   try clear c49
                   try clear c50
                   try clear c50b0
                   try clear c51
                   try clear c51b0
                   try clear c52
                   try clear c52b0
                   try clear c53
                   try clear c53b0
                   try clear c54
                   try clear c54b0
                   try clear c55
                   try clear c55b0
                   try clear c56
                   try clear c56b0
                   try clear c62
                   try clear c62b0
                   try clear c62b1
                   try clear c62b2
                   try clear p64
                   try clear c66
                   try clear hx386_0
                   try clear hx386_1
                   try clear hx386_2
                   try clear hx386_3
                   try clear hx386_4
                   try clear hx387_0
                   try clear hx387_1
                   try clear hx387_2
                   try clear hx387_3
                   try clear hx387_4
                   try clear p2
                   try clear p3
                   try clear p38
                   try clear p386
                   try clear p387
                   try clear p6
                   try clear p64
                   try clear q047
                   try clear q3
                   try clear q38
                   try clear q386
                   try clear q387
                   try clear q4
                   try clear q47
                   obtain ⟨x26_7,rfl,HA,HK7,HO_11,HO_24,HO_25,HB⟩:=hrel
                   cases gk with
                   | zero => exact absurd HA.out (by simp [cofferlaw14_StackParts.l2])
                   | succ k7 =>
                    have H:=HA.out
                    clear HA
                    simp only [cofferlaw14_StackParts.l2] at H
                    by_cases c67 : x26_7 < (t388.length : Int)
                    ·rw [if_pos c67] at H
                     have c67b0 : decide (x26_7 < (t388.length : Int)) = true:=decide_eq_true c67
                     clear c67
                     obtain ⟨ji68,hji68⟩ : ∃ j_ : Int,(wrap64 ((wrap64 ((t356.length : Int) - 1)) - x26_7)) = j_:=⟨_,rfl⟩
                     replace H : (if 0 ≤ (ji68) then (if (ji68) < (t356.length : Int) then (if 0 ≤ x26_7 then (if (!((((rd_T43 t388 x26_7).f0).toList) == (((rd_T25 t356 (ji68)).f0).toList)) || (!(((rd_T43 t388 x26_7).f1) == ((rd_T25 t356 (ji68)).f1)) || (!(((rd_T43 t388 x26_7).f2) == ((rd_T25 t356 (ji68)).f2)) || (!(((rd_T43 t388 x26_7).f3) == (((rd_T25 t356 (ji68)).f3).size : Int)))))) = true then (none) else (if x26_7 < (t391.length : Int) then (if (!((((rd_T43 t391 x26_7).f0).toList) == (((rd_T43 t388 x26_7).f0).toList)) || (!(((rd_T43 t391 x26_7).f1) == ((rd_T43 t388 x26_7).f1)) || (!(((rd_T43 t391 x26_7).f2) == ((rd_T43 t388 x26_7).f2)) || (!(((rd_T43 t391 x26_7).f3) == ((rd_T43 t388 x26_7).f3)))))) = true then (none) else (cofferlaw14_StackParts.l2 k7 t356 t388 t391 (wrap64 (x26_7 + 1)))) else (cofferlaw14_StackParts.l2 k7 t356 t388 t391 (wrap64 (x26_7 + 1))))) else (none)) else (none)) else (none)) = some r:=by first|(rw [hji68] at H;exact H)|(simp only [hji68] at H ⊢;exact H)
                     have hji68w : (IntKind.i64.wrap ((wrap64 ((t356.length : Int) - 1)) - x26_7)) = ji68:=(i64_w _).trans hji68
                     by_cases c69 : 0 ≤ (ji68)
                     ·rw [if_pos c69] at H
                      have c69b0 : decide (0 ≤ (ji68)) = true:=decide_eq_true c69
                      clear c69
                      by_cases c70 : (ji68) < (t356.length : Int)
                      ·rw [if_pos c70] at H
                       have c70b0 : decide ((ji68) < (t356.length : Int)) = true:=decide_eq_true c70
                       clear c70
                       by_cases c71 : 0 ≤ x26_7
                       ·rw [if_pos c71] at H
                        have c71b0 : decide (0 ≤ x26_7) = true:=decide_eq_true c71
                        clear c71
                        by_cases c72 : (!((((rd_T43 t388 x26_7).f0).toList) == (((rd_T25 t356 (ji68)).f0).toList)) || (!(((rd_T43 t388 x26_7).f1) == ((rd_T25 t356 (ji68)).f1)) || (!(((rd_T43 t388 x26_7).f2) == ((rd_T25 t356 (ji68)).f2)) || (!(((rd_T43 t388 x26_7).f3) == (((rd_T25 t356 (ji68)).f3).size : Int)))))) = true
                        ·rw [if_pos c72] at H
                         exact absurd H (by simp)
                        ·rw [if_neg c72] at H
                         have c72b0 : (!((((rd_T43 t388 x26_7).f0).toList) == (((rd_T25 t356 (ji68)).f0).toList)) || (!(((rd_T43 t388 x26_7).f1) == ((rd_T25 t356 (ji68)).f1)) || (!(((rd_T43 t388 x26_7).f2) == ((rd_T25 t356 (ji68)).f2)) || (!(((rd_T43 t388 x26_7).f3) == (((rd_T25 t356 (ji68)).f3).size : Int)))))) = false:=by simpa using c72
                         clear c72
                         by_cases c73 : x26_7 < (t391.length : Int)
                         ·rw [if_pos c73] at H
                          have c73b0 : decide (x26_7 < (t391.length : Int)) = true:=decide_eq_true c73
                          clear c73
                          by_cases c74 : (!((((rd_T43 t391 x26_7).f0).toList) == (((rd_T43 t388 x26_7).f0).toList)) || (!(((rd_T43 t391 x26_7).f1) == ((rd_T43 t388 x26_7).f1)) || (!(((rd_T43 t391 x26_7).f2) == ((rd_T43 t388 x26_7).f2)) || (!(((rd_T43 t391 x26_7).f3) == ((rd_T43 t388 x26_7).f3)))))) = true
                          ·rw [if_pos c74] at H
                           exact absurd H (by simp)
                          ·rw [if_neg c74] at H
                           have c74b0 : (!((((rd_T43 t391 x26_7).f0).toList) == (((rd_T43 t388 x26_7).f0).toList)) || (!(((rd_T43 t391 x26_7).f1) == ((rd_T43 t388 x26_7).f1)) || (!(((rd_T43 t391 x26_7).f2) == ((rd_T43 t388 x26_7).f2)) || (!(((rd_T43 t391 x26_7).f3) == ((rd_T43 t388 x26_7).f3)))))) = false:=by simpa using c74
                           clear c74
                           have H':=Aside0.mk H
                           clear H
                           obtain ⟨Ao75,co75,eo75⟩:=Kd.R_slice HO_24.out
                           subst eo75
                           have p394 : 0 ≤ ((ji68) : Int):=of_decide_eq_true (by first|(with_reducible assumption)|assumption)
                           have q394 : (ji68) < (t356.length : Int):=of_decide_eq_true (by first|(with_reducible assumption)|assumption)
                           obtain ⟨ad394,A394_4,c394_4,e394,hx394_0,hx394_1,hx394_2,hx394_3,hx394_4,hl394_4,hi394_4⟩:=at_T25 (Kd.S_reads' HO_11.out).2.2 (ji68) p394 q394
                           cases e394
                           obtain ⟨ce394,hce394,hMe394,hcc394⟩:=Kd.S_get HO_11.out z25 (ji68) p394 (by first|exact q394|exact of_decide_eq_true (by first|(with_reducible assumption)|assumption)|(have e_:=(Kd.S_reads' HO_11.out).1;omega))
                           obtain ⟨ve394_4,rfl,ge394_4⟩:=k25_openM hMe394
                           have hv394_4:=hcc394 4 _ rfl
                           rw [add_field _ _ 4 (by omega)] at hv394_4
                           replace hv394_4:=Option.some.inj (hv394_4.symm.trans hx394_4)
                           rw [hv394_4] at ge394_4
                           have HL394_4:=Aside0.mk (show Kd.R k49 49 _ _ _ _ ((rd_T25 t356 (ji68)).f4) from ge394_4)
                           clear hv394_4 ge394_4
                           clear hcc394 hce394
                           have HR394_4:=Aside0.mk hi394_4
                           have HC394_4:=Aside0.mk hl394_4
                           clear hi394_4 hl394_4
                           replace p394:=eq_true p394
                           replace q394:=eq_true q394
                           go_wp2_with (first|((with_reducible refine gate_dst (N:=27) rfl ?_);(try (refine gate_guard (by rfl) ?_;dsimp only));refine box_event ?hg (N:=27) ?hd (cs:=#[.string (⟨#[]⟩ : ByteArray),.int .i64 0,.bool false,.string (⟨#[]⟩ : ByteArray),.slice none 0 0]) (t:=25) ?hr ?_;(case hd => rfl);(case hg => rfl);(case hr => first|(go_simp;done)|(go_simp;rfl));intro gb395 hg w76 hbox hb;have n0_:=Aside0.mk (Kd.S_below (Kd.S_elderB (by (with_reducible repeat (first|apply Kd.S_alloc|apply Kd.S_drewN|apply Kd.S_drew));exact HO_11.out) gb395 (Nat.le_of_eq hg.symm)) hb);have n1_:=Aside0.mk (Kd.R_below (by (with_reducible repeat (first|apply Kd.R_alloc|apply Kd.R_drewN|apply Kd.R_drew));exact HO_24.out) hb);have n2_:=Aside0.mk (Kd.R_below (by (with_reducible repeat (first|apply Kd.R_alloc|apply Kd.R_drewN|apply Kd.R_drew));exact HO_25.out) hb);have n3_:=Aside0.mk (Kd.R_below (by (with_reducible repeat (first|apply Kd.R_alloc|apply Kd.R_drewN|apply Kd.R_drew));exact HL394_4.out) hb);have n4_:=Aside0.mk (Kd.C_below (by repeat (first|(with_reducible exact HR394_4.out)|(with_reducible refine Kd.C_alloc ?_ _)|(with_reducible refine Kd.C_drewN ?_ _)|(with_reducible refine Kd.C_drew ?_)|exact HR394_4.out)) hb);have n5_:=Aside0.mk (below_step (by repeat (first|(with_reducible first|exact HB.out|apply below_alloc|apply pw_below_drewN|apply below_drew1)|exact HB.out)) hb);have n6_:=Aside0.mk (hbox);have n7_:=Aside0.mk ((by rw [hg];exact (below_size (by repeat (first|(with_reducible first|exact HB.out|apply below_alloc|apply pw_below_drewN|apply below_drew1)|exact HB.out))) : w.heap.size ≤ gb395));have n8_:=Aside0.mk ((by rw [hg];exact (below_size (by repeat (first|(with_reducible first|exact HB.out|apply below_alloc|apply pw_below_drewN|apply below_drew1)|exact HB.out))) : w.heap.size ≤ gb395));clear HO_11;clear HO_24;clear HO_25;clear HL394_4;clear HR394_4;clear HB;have HO_11:=n0_;have HO_24:=n1_;have HO_25:=n2_;have HL394_4:=n3_;have HR394_4:=n4_;have HB:=n5_;have BK395:=n6_;have GW395:=n7_;have GE395:=n8_;clear n0_ n1_ n2_ n3_ n4_ n5_ n6_ n7_ n8_;clear hb hbox hg;have hcz77_0 : w76.cell? ⟨gb395,0,none⟩ = some (.string (⟨#[]⟩ : ByteArray)):=(blk_cell BK395.out 0).trans rfl;have hcz77_1 : w76.cell? ⟨gb395,1,none⟩ = some (.int .i64 0):=(blk_cell BK395.out 1).trans rfl;have hcz77_2 : w76.cell? ⟨gb395,2,none⟩ = some (.bool false):=(blk_cell BK395.out 2).trans rfl;have hcz77_3 : w76.cell? ⟨gb395,3,none⟩ = some (.string (⟨#[]⟩ : ByteArray)):=(blk_cell BK395.out 3).trans rfl;have hcz77_4 : w76.cell? ⟨gb395,4,none⟩ = some (.slice none 0 0):=(blk_cell BK395.out 4).trans rfl;have hfz77_0:=blk_frozen BK395.out 0;have hfz77_1:=blk_frozen BK395.out 1;have hfz77_2:=blk_frozen BK395.out 2;have hfz77_3:=blk_frozen BK395.out 3;have hfz77_4:=blk_frozen BK395.out 4;have p396 : 0 ≤ (x26_7 : Int):=of_decide_eq_true (by first|(with_reducible assumption)|assumption);have q396 : x26_7 < (t388.length : Int):=of_decide_eq_true (by first|(with_reducible assumption)|assumption);obtain ⟨ad396,e396,hx396_0,hx396_1,hx396_2,hx396_3⟩:=at_T43 (Kd.R_reads' HO_24.out).2.2 x26_7 p396 q396;cases e396;have hn396_0 : ad396.block ≠ gb395:=Kd.own_blk (Kd.R_ne HO_24.out BK395.out (by decide));have hn396_1 : ad396.block ≠ gb395:=Kd.own_blk (Kd.R_ne HO_24.out BK395.out (by decide));have hn396_2 : ad396.block ≠ gb395:=Kd.own_blk (Kd.R_ne HO_24.out BK395.out (by decide));have hn396_3 : ad396.block ≠ gb395:=Kd.own_blk (Kd.R_ne HO_24.out BK395.out (by decide));have hn396_4 : ad396.block ≠ gb395:=Kd.own_blk (Kd.R_ne HO_24.out BK395.out (by decide));replace hx396_0:=(cell_far (p:=⟨gb395,0,none⟩) (by first|(rw [add_block];exact hn396_0)|(show (Addr.add _ _).block ≠ _;rw [add_block];exact hn396_0)|exact hn396_0) (.string ((rd_T25 t356 (ji68)).f0))).trans hx396_0;replace hx396_1:=(cell_far (p:=⟨gb395,0,none⟩) (by first|(rw [add_block];exact hn396_0)|(show (Addr.add _ _).block ≠ _;rw [add_block];exact hn396_0)|exact hn396_0) (.string ((rd_T25 t356 (ji68)).f0))).trans hx396_1;replace hx396_2:=(cell_far (p:=⟨gb395,0,none⟩) (by first|(rw [add_block];exact hn396_0)|(show (Addr.add _ _).block ≠ _;rw [add_block];exact hn396_0)|exact hn396_0) (.string ((rd_T25 t356 (ji68)).f0))).trans hx396_2;replace hx396_3:=(cell_far (p:=⟨gb395,0,none⟩) (by first|(rw [add_block];exact hn396_0)|(show (Addr.add _ _).block ≠ _;rw [add_block];exact hn396_0)|exact hn396_0) (.string ((rd_T25 t356 (ji68)).f0))).trans hx396_3;replace hx396_0:=(cell_far (p:=⟨gb395,1,none⟩) (by first|(rw [add_block];exact hn396_1)|(show (Addr.add _ _).block ≠ _;rw [add_block];exact hn396_1)|exact hn396_1) (.int .i64 ((rd_T25 t356 (ji68)).f1))).trans hx396_0;replace hx396_1:=(cell_far (p:=⟨gb395,1,none⟩) (by first|(rw [add_block];exact hn396_1)|(show (Addr.add _ _).block ≠ _;rw [add_block];exact hn396_1)|exact hn396_1) (.int .i64 ((rd_T25 t356 (ji68)).f1))).trans hx396_1;replace hx396_2:=(cell_far (p:=⟨gb395,1,none⟩) (by first|(rw [add_block];exact hn396_1)|(show (Addr.add _ _).block ≠ _;rw [add_block];exact hn396_1)|exact hn396_1) (.int .i64 ((rd_T25 t356 (ji68)).f1))).trans hx396_2;replace hx396_3:=(cell_far (p:=⟨gb395,1,none⟩) (by first|(rw [add_block];exact hn396_1)|(show (Addr.add _ _).block ≠ _;rw [add_block];exact hn396_1)|exact hn396_1) (.int .i64 ((rd_T25 t356 (ji68)).f1))).trans hx396_3;replace hx396_0:=(cell_far (p:=⟨gb395,2,none⟩) (by first|(rw [add_block];exact hn396_2)|(show (Addr.add _ _).block ≠ _;rw [add_block];exact hn396_2)|exact hn396_2) (.bool ((rd_T25 t356 (ji68)).f2))).trans hx396_0;replace hx396_1:=(cell_far (p:=⟨gb395,2,none⟩) (by first|(rw [add_block];exact hn396_2)|(show (Addr.add _ _).block ≠ _;rw [add_block];exact hn396_2)|exact hn396_2) (.bool ((rd_T25 t356 (ji68)).f2))).trans hx396_1;replace hx396_2:=(cell_far (p:=⟨gb395,2,none⟩) (by first|(rw [add_block];exact hn396_2)|(show (Addr.add _ _).block ≠ _;rw [add_block];exact hn396_2)|exact hn396_2) (.bool ((rd_T25 t356 (ji68)).f2))).trans hx396_2;replace hx396_3:=(cell_far (p:=⟨gb395,2,none⟩) (by first|(rw [add_block];exact hn396_2)|(show (Addr.add _ _).block ≠ _;rw [add_block];exact hn396_2)|exact hn396_2) (.bool ((rd_T25 t356 (ji68)).f2))).trans hx396_3;replace hx396_0:=(cell_far (p:=⟨gb395,3,none⟩) (by first|(rw [add_block];exact hn396_3)|(show (Addr.add _ _).block ≠ _;rw [add_block];exact hn396_3)|exact hn396_3) (.string ((rd_T25 t356 (ji68)).f3))).trans hx396_0;replace hx396_1:=(cell_far (p:=⟨gb395,3,none⟩) (by first|(rw [add_block];exact hn396_3)|(show (Addr.add _ _).block ≠ _;rw [add_block];exact hn396_3)|exact hn396_3) (.string ((rd_T25 t356 (ji68)).f3))).trans hx396_1;replace hx396_2:=(cell_far (p:=⟨gb395,3,none⟩) (by first|(rw [add_block];exact hn396_3)|(show (Addr.add _ _).block ≠ _;rw [add_block];exact hn396_3)|exact hn396_3) (.string ((rd_T25 t356 (ji68)).f3))).trans hx396_2;replace hx396_3:=(cell_far (p:=⟨gb395,3,none⟩) (by first|(rw [add_block];exact hn396_3)|(show (Addr.add _ _).block ≠ _;rw [add_block];exact hn396_3)|exact hn396_3) (.string ((rd_T25 t356 (ji68)).f3))).trans hx396_3;replace hx396_0:=(cell_far (p:=⟨gb395,4,none⟩) (by first|(rw [add_block];exact hn396_4)|(show (Addr.add _ _).block ≠ _;rw [add_block];exact hn396_4)|exact hn396_4) (.slice A394_4 ((rd_T25 t356 (ji68)).f4).length c394_4)).trans hx396_0;replace hx396_1:=(cell_far (p:=⟨gb395,4,none⟩) (by first|(rw [add_block];exact hn396_4)|(show (Addr.add _ _).block ≠ _;rw [add_block];exact hn396_4)|exact hn396_4) (.slice A394_4 ((rd_T25 t356 (ji68)).f4).length c394_4)).trans hx396_1;replace hx396_2:=(cell_far (p:=⟨gb395,4,none⟩) (by first|(rw [add_block];exact hn396_4)|(show (Addr.add _ _).block ≠ _;rw [add_block];exact hn396_4)|exact hn396_4) (.slice A394_4 ((rd_T25 t356 (ji68)).f4).length c394_4)).trans hx396_2;replace hx396_3:=(cell_far (p:=⟨gb395,4,none⟩) (by first|(rw [add_block];exact hn396_4)|(show (Addr.add _ _).block ≠ _;rw [add_block];exact hn396_4)|exact hn396_4) (.slice A394_4 ((rd_T25 t356 (ji68)).f4).length c394_4)).trans hx396_3;clear hn396_0;clear hn396_1;clear hn396_2;clear hn396_3;clear hn396_4;replace p396:=eq_true p396;replace q396:=eq_true q396;obtain ⟨Ao78,co78,eo78⟩:=Kd.R_slice HO_25.out;subst eo78;have p397 : 0 ≤ (x26_7 : Int):=of_decide_eq_true (by first|(with_reducible assumption)|assumption);have q397 : x26_7 < (t391.length : Int):=of_decide_eq_true (by first|(with_reducible assumption)|assumption);obtain ⟨ad397,e397,hx397_0,hx397_1,hx397_2,hx397_3⟩:=at_T43 (Kd.R_reads' HO_25.out).2.2 x26_7 p397 q397;cases e397;have hn397_0 : ad397.block ≠ gb395:=Kd.own_blk (Kd.R_ne HO_25.out BK395.out (by decide));have hn397_1 : ad397.block ≠ gb395:=Kd.own_blk (Kd.R_ne HO_25.out BK395.out (by decide));have hn397_2 : ad397.block ≠ gb395:=Kd.own_blk (Kd.R_ne HO_25.out BK395.out (by decide));have hn397_3 : ad397.block ≠ gb395:=Kd.own_blk (Kd.R_ne HO_25.out BK395.out (by decide));have hn397_4 : ad397.block ≠ gb395:=Kd.own_blk (Kd.R_ne HO_25.out BK395.out (by decide));replace hx397_0:=(cell_far (p:=⟨gb395,0,none⟩) (by first|(rw [add_block];exact hn397_0)|(show (Addr.add _ _).block ≠ _;rw [add_block];exact hn397_0)|exact hn397_0) (.string ((rd_T25 t356 (ji68)).f0))).trans hx397_0;replace hx397_1:=(cell_far (p:=⟨gb395,0,none⟩) (by first|(rw [add_block];exact hn397_0)|(show (Addr.add _ _).block ≠ _;rw [add_block];exact hn397_0)|exact hn397_0) (.string ((rd_T25 t356 (ji68)).f0))).trans hx397_1;replace hx397_2:=(cell_far (p:=⟨gb395,0,none⟩) (by first|(rw [add_block];exact hn397_0)|(show (Addr.add _ _).block ≠ _;rw [add_block];exact hn397_0)|exact hn397_0) (.string ((rd_T25 t356 (ji68)).f0))).trans hx397_2;replace hx397_3:=(cell_far (p:=⟨gb395,0,none⟩) (by first|(rw [add_block];exact hn397_0)|(show (Addr.add _ _).block ≠ _;rw [add_block];exact hn397_0)|exact hn397_0) (.string ((rd_T25 t356 (ji68)).f0))).trans hx397_3;replace hx397_0:=(cell_far (p:=⟨gb395,1,none⟩) (by first|(rw [add_block];exact hn397_1)|(show (Addr.add _ _).block ≠ _;rw [add_block];exact hn397_1)|exact hn397_1) (.int .i64 ((rd_T25 t356 (ji68)).f1))).trans hx397_0;replace hx397_1:=(cell_far (p:=⟨gb395,1,none⟩) (by first|(rw [add_block];exact hn397_1)|(show (Addr.add _ _).block ≠ _;rw [add_block];exact hn397_1)|exact hn397_1) (.int .i64 ((rd_T25 t356 (ji68)).f1))).trans hx397_1;replace hx397_2:=(cell_far (p:=⟨gb395,1,none⟩) (by first|(rw [add_block];exact hn397_1)|(show (Addr.add _ _).block ≠ _;rw [add_block];exact hn397_1)|exact hn397_1) (.int .i64 ((rd_T25 t356 (ji68)).f1))).trans hx397_2;replace hx397_3:=(cell_far (p:=⟨gb395,1,none⟩) (by first|(rw [add_block];exact hn397_1)|(show (Addr.add _ _).block ≠ _;rw [add_block];exact hn397_1)|exact hn397_1) (.int .i64 ((rd_T25 t356 (ji68)).f1))).trans hx397_3;replace hx397_0:=(cell_far (p:=⟨gb395,2,none⟩) (by first|(rw [add_block];exact hn397_2)|(show (Addr.add _ _).block ≠ _;rw [add_block];exact hn397_2)|exact hn397_2) (.bool ((rd_T25 t356 (ji68)).f2))).trans hx397_0;replace hx397_1:=(cell_far (p:=⟨gb395,2,none⟩) (by first|(rw [add_block];exact hn397_2)|(show (Addr.add _ _).block ≠ _;rw [add_block];exact hn397_2)|exact hn397_2) (.bool ((rd_T25 t356 (ji68)).f2))).trans hx397_1;replace hx397_2:=(cell_far (p:=⟨gb395,2,none⟩) (by first|(rw [add_block];exact hn397_2)|(show (Addr.add _ _).block ≠ _;rw [add_block];exact hn397_2)|exact hn397_2) (.bool ((rd_T25 t356 (ji68)).f2))).trans hx397_2;replace hx397_3:=(cell_far (p:=⟨gb395,2,none⟩) (by first|(rw [add_block];exact hn397_2)|(show (Addr.add _ _).block ≠ _;rw [add_block];exact hn397_2)|exact hn397_2) (.bool ((rd_T25 t356 (ji68)).f2))).trans hx397_3;replace hx397_0:=(cell_far (p:=⟨gb395,3,none⟩) (by first|(rw [add_block];exact hn397_3)|(show (Addr.add _ _).block ≠ _;rw [add_block];exact hn397_3)|exact hn397_3) (.string ((rd_T25 t356 (ji68)).f3))).trans hx397_0;replace hx397_1:=(cell_far (p:=⟨gb395,3,none⟩) (by first|(rw [add_block];exact hn397_3)|(show (Addr.add _ _).block ≠ _;rw [add_block];exact hn397_3)|exact hn397_3) (.string ((rd_T25 t356 (ji68)).f3))).trans hx397_1;replace hx397_2:=(cell_far (p:=⟨gb395,3,none⟩) (by first|(rw [add_block];exact hn397_3)|(show (Addr.add _ _).block ≠ _;rw [add_block];exact hn397_3)|exact hn397_3) (.string ((rd_T25 t356 (ji68)).f3))).trans hx397_2;replace hx397_3:=(cell_far (p:=⟨gb395,3,none⟩) (by first|(rw [add_block];exact hn397_3)|(show (Addr.add _ _).block ≠ _;rw [add_block];exact hn397_3)|exact hn397_3) (.string ((rd_T25 t356 (ji68)).f3))).trans hx397_3;replace hx397_0:=(cell_far (p:=⟨gb395,4,none⟩) (by first|(rw [add_block];exact hn397_4)|(show (Addr.add _ _).block ≠ _;rw [add_block];exact hn397_4)|exact hn397_4) (.slice A394_4 ((rd_T25 t356 (ji68)).f4).length c394_4)).trans hx397_0;replace hx397_1:=(cell_far (p:=⟨gb395,4,none⟩) (by first|(rw [add_block];exact hn397_4)|(show (Addr.add _ _).block ≠ _;rw [add_block];exact hn397_4)|exact hn397_4) (.slice A394_4 ((rd_T25 t356 (ji68)).f4).length c394_4)).trans hx397_1;replace hx397_2:=(cell_far (p:=⟨gb395,4,none⟩) (by first|(rw [add_block];exact hn397_4)|(show (Addr.add _ _).block ≠ _;rw [add_block];exact hn397_4)|exact hn397_4) (.slice A394_4 ((rd_T25 t356 (ji68)).f4).length c394_4)).trans hx397_2;replace hx397_3:=(cell_far (p:=⟨gb395,4,none⟩) (by first|(rw [add_block];exact hn397_4)|(show (Addr.add _ _).block ≠ _;rw [add_block];exact hn397_4)|exact hn397_4) (.slice A394_4 ((rd_T25 t356 (ji68)).f4).length c394_4)).trans hx397_3;clear hn397_0;clear hn397_1;clear hn397_2;clear hn397_3;clear hn397_4;replace p397:=eq_true p397;replace q397:=eq_true q397;have p398 : 0 ≤ (x26_7 : Int):=of_decide_eq_true (by first|(with_reducible assumption)|assumption);have q398 : x26_7 < (t388.length : Int):=of_decide_eq_true (by first|(with_reducible assumption)|assumption);obtain ⟨ad398,e398,hx398_0,hx398_1,hx398_2,hx398_3⟩:=at_T43 (Kd.R_reads' HO_24.out).2.2 x26_7 p398 q398;obtain rfl : ad396 = ad398:=(by injection e398);have hn398_0 : ad396.block ≠ gb395:=Kd.own_blk (Kd.R_ne HO_24.out BK395.out (by decide));have hn398_1 : ad396.block ≠ gb395:=Kd.own_blk (Kd.R_ne HO_24.out BK395.out (by decide));have hn398_2 : ad396.block ≠ gb395:=Kd.own_blk (Kd.R_ne HO_24.out BK395.out (by decide));have hn398_3 : ad396.block ≠ gb395:=Kd.own_blk (Kd.R_ne HO_24.out BK395.out (by decide));have hn398_4 : ad396.block ≠ gb395:=Kd.own_blk (Kd.R_ne HO_24.out BK395.out (by decide));replace hx398_0:=(cell_far (p:=⟨gb395,0,none⟩) (by first|(rw [add_block];exact hn398_0)|(show (Addr.add _ _).block ≠ _;rw [add_block];exact hn398_0)|exact hn398_0) (.string ((rd_T25 t356 (ji68)).f0))).trans hx398_0;replace hx398_1:=(cell_far (p:=⟨gb395,0,none⟩) (by first|(rw [add_block];exact hn398_0)|(show (Addr.add _ _).block ≠ _;rw [add_block];exact hn398_0)|exact hn398_0) (.string ((rd_T25 t356 (ji68)).f0))).trans hx398_1;replace hx398_2:=(cell_far (p:=⟨gb395,0,none⟩) (by first|(rw [add_block];exact hn398_0)|(show (Addr.add _ _).block ≠ _;rw [add_block];exact hn398_0)|exact hn398_0) (.string ((rd_T25 t356 (ji68)).f0))).trans hx398_2;replace hx398_3:=(cell_far (p:=⟨gb395,0,none⟩) (by first|(rw [add_block];exact hn398_0)|(show (Addr.add _ _).block ≠ _;rw [add_block];exact hn398_0)|exact hn398_0) (.string ((rd_T25 t356 (ji68)).f0))).trans hx398_3;replace hx398_0:=(cell_far (p:=⟨gb395,1,none⟩) (by first|(rw [add_block];exact hn398_1)|(show (Addr.add _ _).block ≠ _;rw [add_block];exact hn398_1)|exact hn398_1) (.int .i64 ((rd_T25 t356 (ji68)).f1))).trans hx398_0;replace hx398_1:=(cell_far (p:=⟨gb395,1,none⟩) (by first|(rw [add_block];exact hn398_1)|(show (Addr.add _ _).block ≠ _;rw [add_block];exact hn398_1)|exact hn398_1) (.int .i64 ((rd_T25 t356 (ji68)).f1))).trans hx398_1;replace hx398_2:=(cell_far (p:=⟨gb395,1,none⟩) (by first|(rw [add_block];exact hn398_1)|(show (Addr.add _ _).block ≠ _;rw [add_block];exact hn398_1)|exact hn398_1) (.int .i64 ((rd_T25 t356 (ji68)).f1))).trans hx398_2;replace hx398_3:=(cell_far (p:=⟨gb395,1,none⟩) (by first|(rw [add_block];exact hn398_1)|(show (Addr.add _ _).block ≠ _;rw [add_block];exact hn398_1)|exact hn398_1) (.int .i64 ((rd_T25 t356 (ji68)).f1))).trans hx398_3;replace hx398_0:=(cell_far (p:=⟨gb395,2,none⟩) (by first|(rw [add_block];exact hn398_2)|(show (Addr.add _ _).block ≠ _;rw [add_block];exact hn398_2)|exact hn398_2) (.bool ((rd_T25 t356 (ji68)).f2))).trans hx398_0;replace hx398_1:=(cell_far (p:=⟨gb395,2,none⟩) (by first|(rw [add_block];exact hn398_2)|(show (Addr.add _ _).block ≠ _;rw [add_block];exact hn398_2)|exact hn398_2) (.bool ((rd_T25 t356 (ji68)).f2))).trans hx398_1;replace hx398_2:=(cell_far (p:=⟨gb395,2,none⟩) (by first|(rw [add_block];exact hn398_2)|(show (Addr.add _ _).block ≠ _;rw [add_block];exact hn398_2)|exact hn398_2) (.bool ((rd_T25 t356 (ji68)).f2))).trans hx398_2;replace hx398_3:=(cell_far (p:=⟨gb395,2,none⟩) (by first|(rw [add_block];exact hn398_2)|(show (Addr.add _ _).block ≠ _;rw [add_block];exact hn398_2)|exact hn398_2) (.bool ((rd_T25 t356 (ji68)).f2))).trans hx398_3;replace hx398_0:=(cell_far (p:=⟨gb395,3,none⟩) (by first|(rw [add_block];exact hn398_3)|(show (Addr.add _ _).block ≠ _;rw [add_block];exact hn398_3)|exact hn398_3) (.string ((rd_T25 t356 (ji68)).f3))).trans hx398_0;replace hx398_1:=(cell_far (p:=⟨gb395,3,none⟩) (by first|(rw [add_block];exact hn398_3)|(show (Addr.add _ _).block ≠ _;rw [add_block];exact hn398_3)|exact hn398_3) (.string ((rd_T25 t356 (ji68)).f3))).trans hx398_1;replace hx398_2:=(cell_far (p:=⟨gb395,3,none⟩) (by first|(rw [add_block];exact hn398_3)|(show (Addr.add _ _).block ≠ _;rw [add_block];exact hn398_3)|exact hn398_3) (.string ((rd_T25 t356 (ji68)).f3))).trans hx398_2;replace hx398_3:=(cell_far (p:=⟨gb395,3,none⟩) (by first|(rw [add_block];exact hn398_3)|(show (Addr.add _ _).block ≠ _;rw [add_block];exact hn398_3)|exact hn398_3) (.string ((rd_T25 t356 (ji68)).f3))).trans hx398_3;replace hx398_0:=(cell_far (p:=⟨gb395,4,none⟩) (by first|(rw [add_block];exact hn398_4)|(show (Addr.add _ _).block ≠ _;rw [add_block];exact hn398_4)|exact hn398_4) (.slice A394_4 ((rd_T25 t356 (ji68)).f4).length c394_4)).trans hx398_0;replace hx398_1:=(cell_far (p:=⟨gb395,4,none⟩) (by first|(rw [add_block];exact hn398_4)|(show (Addr.add _ _).block ≠ _;rw [add_block];exact hn398_4)|exact hn398_4) (.slice A394_4 ((rd_T25 t356 (ji68)).f4).length c394_4)).trans hx398_1;replace hx398_2:=(cell_far (p:=⟨gb395,4,none⟩) (by first|(rw [add_block];exact hn398_4)|(show (Addr.add _ _).block ≠ _;rw [add_block];exact hn398_4)|exact hn398_4) (.slice A394_4 ((rd_T25 t356 (ji68)).f4).length c394_4)).trans hx398_2;replace hx398_3:=(cell_far (p:=⟨gb395,4,none⟩) (by first|(rw [add_block];exact hn398_4)|(show (Addr.add _ _).block ≠ _;rw [add_block];exact hn398_4)|exact hn398_4) (.slice A394_4 ((rd_T25 t356 (ji68)).f4).length c394_4)).trans hx398_3;clear hn398_0;clear hn398_1;clear hn398_2;clear hn398_3;clear hn398_4;replace p398:=eq_true p398;replace q398:=eq_true q398))
                           repeat (go_quiet (first|((with_reducible refine gate_dst (N:=27) rfl ?_);(try (refine gate_guard (by rfl) ?_;dsimp only));refine box_event ?hg (N:=27) ?hd (cs:=#[.string (⟨#[]⟩ : ByteArray),.int .i64 0,.bool false,.string (⟨#[]⟩ : ByteArray),.slice none 0 0]) (t:=25) ?hr ?_;(case hd => rfl);(case hg => rfl);(case hr => first|(go_simp;done)|(go_simp;rfl));intro gb395 hg w76 hbox hb;have n0_:=Aside0.mk (Kd.S_below (Kd.S_elderB (by (with_reducible repeat (first|apply Kd.S_alloc|apply Kd.S_drewN|apply Kd.S_drew));exact HO_11.out) gb395 (Nat.le_of_eq hg.symm)) hb);have n1_:=Aside0.mk (Kd.R_below (by (with_reducible repeat (first|apply Kd.R_alloc|apply Kd.R_drewN|apply Kd.R_drew));exact HO_24.out) hb);have n2_:=Aside0.mk (Kd.R_below (by (with_reducible repeat (first|apply Kd.R_alloc|apply Kd.R_drewN|apply Kd.R_drew));exact HO_25.out) hb);have n3_:=Aside0.mk (Kd.R_below (by (with_reducible repeat (first|apply Kd.R_alloc|apply Kd.R_drewN|apply Kd.R_drew));exact HL394_4.out) hb);have n4_:=Aside0.mk (Kd.C_below (by repeat (first|(with_reducible exact HR394_4.out)|(with_reducible refine Kd.C_alloc ?_ _)|(with_reducible refine Kd.C_drewN ?_ _)|(with_reducible refine Kd.C_drew ?_)|exact HR394_4.out)) hb);have n5_:=Aside0.mk (below_step (by repeat (first|(with_reducible first|exact HB.out|apply below_alloc|apply pw_below_drewN|apply below_drew1)|exact HB.out)) hb);have n6_:=Aside0.mk (hbox);have n7_:=Aside0.mk ((by rw [hg];exact (below_size (by repeat (first|(with_reducible first|exact HB.out|apply below_alloc|apply pw_below_drewN|apply below_drew1)|exact HB.out))) : w.heap.size ≤ gb395));have n8_:=Aside0.mk ((by rw [hg];exact (below_size (by repeat (first|(with_reducible first|exact HB.out|apply below_alloc|apply pw_below_drewN|apply below_drew1)|exact HB.out))) : w.heap.size ≤ gb395));clear HO_11;clear HO_24;clear HO_25;clear HL394_4;clear HR394_4;clear HB;have HO_11:=n0_;have HO_24:=n1_;have HO_25:=n2_;have HL394_4:=n3_;have HR394_4:=n4_;have HB:=n5_;have BK395:=n6_;have GW395:=n7_;have GE395:=n8_;clear n0_ n1_ n2_ n3_ n4_ n5_ n6_ n7_ n8_;clear hb hbox hg;have hcz77_0 : w76.cell? ⟨gb395,0,none⟩ = some (.string (⟨#[]⟩ : ByteArray)):=(blk_cell BK395.out 0).trans rfl;have hcz77_1 : w76.cell? ⟨gb395,1,none⟩ = some (.int .i64 0):=(blk_cell BK395.out 1).trans rfl;have hcz77_2 : w76.cell? ⟨gb395,2,none⟩ = some (.bool false):=(blk_cell BK395.out 2).trans rfl;have hcz77_3 : w76.cell? ⟨gb395,3,none⟩ = some (.string (⟨#[]⟩ : ByteArray)):=(blk_cell BK395.out 3).trans rfl;have hcz77_4 : w76.cell? ⟨gb395,4,none⟩ = some (.slice none 0 0):=(blk_cell BK395.out 4).trans rfl;have hfz77_0:=blk_frozen BK395.out 0;have hfz77_1:=blk_frozen BK395.out 1;have hfz77_2:=blk_frozen BK395.out 2;have hfz77_3:=blk_frozen BK395.out 3;have hfz77_4:=blk_frozen BK395.out 4;have p396 : 0 ≤ (x26_7 : Int):=of_decide_eq_true (by first|(with_reducible assumption)|assumption);have q396 : x26_7 < (t388.length : Int):=of_decide_eq_true (by first|(with_reducible assumption)|assumption);obtain ⟨ad396,e396,hx396_0,hx396_1,hx396_2,hx396_3⟩:=at_T43 (Kd.R_reads' HO_24.out).2.2 x26_7 p396 q396;cases e396;have hn396_0 : ad396.block ≠ gb395:=Kd.own_blk (Kd.R_ne HO_24.out BK395.out (by decide));have hn396_1 : ad396.block ≠ gb395:=Kd.own_blk (Kd.R_ne HO_24.out BK395.out (by decide));have hn396_2 : ad396.block ≠ gb395:=Kd.own_blk (Kd.R_ne HO_24.out BK395.out (by decide));have hn396_3 : ad396.block ≠ gb395:=Kd.own_blk (Kd.R_ne HO_24.out BK395.out (by decide));have hn396_4 : ad396.block ≠ gb395:=Kd.own_blk (Kd.R_ne HO_24.out BK395.out (by decide));replace hx396_0:=(cell_far (p:=⟨gb395,0,none⟩) (by first|(rw [add_block];exact hn396_0)|(show (Addr.add _ _).block ≠ _;rw [add_block];exact hn396_0)|exact hn396_0) (.string ((rd_T25 t356 (ji68)).f0))).trans hx396_0;replace hx396_1:=(cell_far (p:=⟨gb395,0,none⟩) (by first|(rw [add_block];exact hn396_0)|(show (Addr.add _ _).block ≠ _;rw [add_block];exact hn396_0)|exact hn396_0) (.string ((rd_T25 t356 (ji68)).f0))).trans hx396_1;replace hx396_2:=(cell_far (p:=⟨gb395,0,none⟩) (by first|(rw [add_block];exact hn396_0)|(show (Addr.add _ _).block ≠ _;rw [add_block];exact hn396_0)|exact hn396_0) (.string ((rd_T25 t356 (ji68)).f0))).trans hx396_2;replace hx396_3:=(cell_far (p:=⟨gb395,0,none⟩) (by first|(rw [add_block];exact hn396_0)|(show (Addr.add _ _).block ≠ _;rw [add_block];exact hn396_0)|exact hn396_0) (.string ((rd_T25 t356 (ji68)).f0))).trans hx396_3;replace hx396_0:=(cell_far (p:=⟨gb395,1,none⟩) (by first|(rw [add_block];exact hn396_1)|(show (Addr.add _ _).block ≠ _;rw [add_block];exact hn396_1)|exact hn396_1) (.int .i64 ((rd_T25 t356 (ji68)).f1))).trans hx396_0;replace hx396_1:=(cell_far (p:=⟨gb395,1,none⟩) (by first|(rw [add_block];exact hn396_1)|(show (Addr.add _ _).block ≠ _;rw [add_block];exact hn396_1)|exact hn396_1) (.int .i64 ((rd_T25 t356 (ji68)).f1))).trans hx396_1;replace hx396_2:=(cell_far (p:=⟨gb395,1,none⟩) (by first|(rw [add_block];exact hn396_1)|(show (Addr.add _ _).block ≠ _;rw [add_block];exact hn396_1)|exact hn396_1) (.int .i64 ((rd_T25 t356 (ji68)).f1))).trans hx396_2;replace hx396_3:=(cell_far (p:=⟨gb395,1,none⟩) (by first|(rw [add_block];exact hn396_1)|(show (Addr.add _ _).block ≠ _;rw [add_block];exact hn396_1)|exact hn396_1) (.int .i64 ((rd_T25 t356 (ji68)).f1))).trans hx396_3;replace hx396_0:=(cell_far (p:=⟨gb395,2,none⟩) (by first|(rw [add_block];exact hn396_2)|(show (Addr.add _ _).block ≠ _;rw [add_block];exact hn396_2)|exact hn396_2) (.bool ((rd_T25 t356 (ji68)).f2))).trans hx396_0;replace hx396_1:=(cell_far (p:=⟨gb395,2,none⟩) (by first|(rw [add_block];exact hn396_2)|(show (Addr.add _ _).block ≠ _;rw [add_block];exact hn396_2)|exact hn396_2) (.bool ((rd_T25 t356 (ji68)).f2))).trans hx396_1;replace hx396_2:=(cell_far (p:=⟨gb395,2,none⟩) (by first|(rw [add_block];exact hn396_2)|(show (Addr.add _ _).block ≠ _;rw [add_block];exact hn396_2)|exact hn396_2) (.bool ((rd_T25 t356 (ji68)).f2))).trans hx396_2;replace hx396_3:=(cell_far (p:=⟨gb395,2,none⟩) (by first|(rw [add_block];exact hn396_2)|(show (Addr.add _ _).block ≠ _;rw [add_block];exact hn396_2)|exact hn396_2) (.bool ((rd_T25 t356 (ji68)).f2))).trans hx396_3;replace hx396_0:=(cell_far (p:=⟨gb395,3,none⟩) (by first|(rw [add_block];exact hn396_3)|(show (Addr.add _ _).block ≠ _;rw [add_block];exact hn396_3)|exact hn396_3) (.string ((rd_T25 t356 (ji68)).f3))).trans hx396_0;replace hx396_1:=(cell_far (p:=⟨gb395,3,none⟩) (by first|(rw [add_block];exact hn396_3)|(show (Addr.add _ _).block ≠ _;rw [add_block];exact hn396_3)|exact hn396_3) (.string ((rd_T25 t356 (ji68)).f3))).trans hx396_1;replace hx396_2:=(cell_far (p:=⟨gb395,3,none⟩) (by first|(rw [add_block];exact hn396_3)|(show (Addr.add _ _).block ≠ _;rw [add_block];exact hn396_3)|exact hn396_3) (.string ((rd_T25 t356 (ji68)).f3))).trans hx396_2;replace hx396_3:=(cell_far (p:=⟨gb395,3,none⟩) (by first|(rw [add_block];exact hn396_3)|(show (Addr.add _ _).block ≠ _;rw [add_block];exact hn396_3)|exact hn396_3) (.string ((rd_T25 t356 (ji68)).f3))).trans hx396_3;replace hx396_0:=(cell_far (p:=⟨gb395,4,none⟩) (by first|(rw [add_block];exact hn396_4)|(show (Addr.add _ _).block ≠ _;rw [add_block];exact hn396_4)|exact hn396_4) (.slice A394_4 ((rd_T25 t356 (ji68)).f4).length c394_4)).trans hx396_0;replace hx396_1:=(cell_far (p:=⟨gb395,4,none⟩) (by first|(rw [add_block];exact hn396_4)|(show (Addr.add _ _).block ≠ _;rw [add_block];exact hn396_4)|exact hn396_4) (.slice A394_4 ((rd_T25 t356 (ji68)).f4).length c394_4)).trans hx396_1;replace hx396_2:=(cell_far (p:=⟨gb395,4,none⟩) (by first|(rw [add_block];exact hn396_4)|(show (Addr.add _ _).block ≠ _;rw [add_block];exact hn396_4)|exact hn396_4) (.slice A394_4 ((rd_T25 t356 (ji68)).f4).length c394_4)).trans hx396_2;replace hx396_3:=(cell_far (p:=⟨gb395,4,none⟩) (by first|(rw [add_block];exact hn396_4)|(show (Addr.add _ _).block ≠ _;rw [add_block];exact hn396_4)|exact hn396_4) (.slice A394_4 ((rd_T25 t356 (ji68)).f4).length c394_4)).trans hx396_3;clear hn396_0;clear hn396_1;clear hn396_2;clear hn396_3;clear hn396_4;replace p396:=eq_true p396;replace q396:=eq_true q396;obtain ⟨Ao78,co78,eo78⟩:=Kd.R_slice HO_25.out;subst eo78;have p397 : 0 ≤ (x26_7 : Int):=of_decide_eq_true (by first|(with_reducible assumption)|assumption);have q397 : x26_7 < (t391.length : Int):=of_decide_eq_true (by first|(with_reducible assumption)|assumption);obtain ⟨ad397,e397,hx397_0,hx397_1,hx397_2,hx397_3⟩:=at_T43 (Kd.R_reads' HO_25.out).2.2 x26_7 p397 q397;cases e397;have hn397_0 : ad397.block ≠ gb395:=Kd.own_blk (Kd.R_ne HO_25.out BK395.out (by decide));have hn397_1 : ad397.block ≠ gb395:=Kd.own_blk (Kd.R_ne HO_25.out BK395.out (by decide));have hn397_2 : ad397.block ≠ gb395:=Kd.own_blk (Kd.R_ne HO_25.out BK395.out (by decide));have hn397_3 : ad397.block ≠ gb395:=Kd.own_blk (Kd.R_ne HO_25.out BK395.out (by decide));have hn397_4 : ad397.block ≠ gb395:=Kd.own_blk (Kd.R_ne HO_25.out BK395.out (by decide));replace hx397_0:=(cell_far (p:=⟨gb395,0,none⟩) (by first|(rw [add_block];exact hn397_0)|(show (Addr.add _ _).block ≠ _;rw [add_block];exact hn397_0)|exact hn397_0) (.string ((rd_T25 t356 (ji68)).f0))).trans hx397_0;replace hx397_1:=(cell_far (p:=⟨gb395,0,none⟩) (by first|(rw [add_block];exact hn397_0)|(show (Addr.add _ _).block ≠ _;rw [add_block];exact hn397_0)|exact hn397_0) (.string ((rd_T25 t356 (ji68)).f0))).trans hx397_1;replace hx397_2:=(cell_far (p:=⟨gb395,0,none⟩) (by first|(rw [add_block];exact hn397_0)|(show (Addr.add _ _).block ≠ _;rw [add_block];exact hn397_0)|exact hn397_0) (.string ((rd_T25 t356 (ji68)).f0))).trans hx397_2;replace hx397_3:=(cell_far (p:=⟨gb395,0,none⟩) (by first|(rw [add_block];exact hn397_0)|(show (Addr.add _ _).block ≠ _;rw [add_block];exact hn397_0)|exact hn397_0) (.string ((rd_T25 t356 (ji68)).f0))).trans hx397_3;replace hx397_0:=(cell_far (p:=⟨gb395,1,none⟩) (by first|(rw [add_block];exact hn397_1)|(show (Addr.add _ _).block ≠ _;rw [add_block];exact hn397_1)|exact hn397_1) (.int .i64 ((rd_T25 t356 (ji68)).f1))).trans hx397_0;replace hx397_1:=(cell_far (p:=⟨gb395,1,none⟩) (by first|(rw [add_block];exact hn397_1)|(show (Addr.add _ _).block ≠ _;rw [add_block];exact hn397_1)|exact hn397_1) (.int .i64 ((rd_T25 t356 (ji68)).f1))).trans hx397_1;replace hx397_2:=(cell_far (p:=⟨gb395,1,none⟩) (by first|(rw [add_block];exact hn397_1)|(show (Addr.add _ _).block ≠ _;rw [add_block];exact hn397_1)|exact hn397_1) (.int .i64 ((rd_T25 t356 (ji68)).f1))).trans hx397_2;replace hx397_3:=(cell_far (p:=⟨gb395,1,none⟩) (by first|(rw [add_block];exact hn397_1)|(show (Addr.add _ _).block ≠ _;rw [add_block];exact hn397_1)|exact hn397_1) (.int .i64 ((rd_T25 t356 (ji68)).f1))).trans hx397_3;replace hx397_0:=(cell_far (p:=⟨gb395,2,none⟩) (by first|(rw [add_block];exact hn397_2)|(show (Addr.add _ _).block ≠ _;rw [add_block];exact hn397_2)|exact hn397_2) (.bool ((rd_T25 t356 (ji68)).f2))).trans hx397_0;replace hx397_1:=(cell_far (p:=⟨gb395,2,none⟩) (by first|(rw [add_block];exact hn397_2)|(show (Addr.add _ _).block ≠ _;rw [add_block];exact hn397_2)|exact hn397_2) (.bool ((rd_T25 t356 (ji68)).f2))).trans hx397_1;replace hx397_2:=(cell_far (p:=⟨gb395,2,none⟩) (by first|(rw [add_block];exact hn397_2)|(show (Addr.add _ _).block ≠ _;rw [add_block];exact hn397_2)|exact hn397_2) (.bool ((rd_T25 t356 (ji68)).f2))).trans hx397_2;replace hx397_3:=(cell_far (p:=⟨gb395,2,none⟩) (by first|(rw [add_block];exact hn397_2)|(show (Addr.add _ _).block ≠ _;rw [add_block];exact hn397_2)|exact hn397_2) (.bool ((rd_T25 t356 (ji68)).f2))).trans hx397_3;replace hx397_0:=(cell_far (p:=⟨gb395,3,none⟩) (by first|(rw [add_block];exact hn397_3)|(show (Addr.add _ _).block ≠ _;rw [add_block];exact hn397_3)|exact hn397_3) (.string ((rd_T25 t356 (ji68)).f3))).trans hx397_0;replace hx397_1:=(cell_far (p:=⟨gb395,3,none⟩) (by first|(rw [add_block];exact hn397_3)|(show (Addr.add _ _).block ≠ _;rw [add_block];exact hn397_3)|exact hn397_3) (.string ((rd_T25 t356 (ji68)).f3))).trans hx397_1;replace hx397_2:=(cell_far (p:=⟨gb395,3,none⟩) (by first|(rw [add_block];exact hn397_3)|(show (Addr.add _ _).block ≠ _;rw [add_block];exact hn397_3)|exact hn397_3) (.string ((rd_T25 t356 (ji68)).f3))).trans hx397_2;replace hx397_3:=(cell_far (p:=⟨gb395,3,none⟩) (by first|(rw [add_block];exact hn397_3)|(show (Addr.add _ _).block ≠ _;rw [add_block];exact hn397_3)|exact hn397_3) (.string ((rd_T25 t356 (ji68)).f3))).trans hx397_3;replace hx397_0:=(cell_far (p:=⟨gb395,4,none⟩) (by first|(rw [add_block];exact hn397_4)|(show (Addr.add _ _).block ≠ _;rw [add_block];exact hn397_4)|exact hn397_4) (.slice A394_4 ((rd_T25 t356 (ji68)).f4).length c394_4)).trans hx397_0;replace hx397_1:=(cell_far (p:=⟨gb395,4,none⟩) (by first|(rw [add_block];exact hn397_4)|(show (Addr.add _ _).block ≠ _;rw [add_block];exact hn397_4)|exact hn397_4) (.slice A394_4 ((rd_T25 t356 (ji68)).f4).length c394_4)).trans hx397_1;replace hx397_2:=(cell_far (p:=⟨gb395,4,none⟩) (by first|(rw [add_block];exact hn397_4)|(show (Addr.add _ _).block ≠ _;rw [add_block];exact hn397_4)|exact hn397_4) (.slice A394_4 ((rd_T25 t356 (ji68)).f4).length c394_4)).trans hx397_2;replace hx397_3:=(cell_far (p:=⟨gb395,4,none⟩) (by first|(rw [add_block];exact hn397_4)|(show (Addr.add _ _).block ≠ _;rw [add_block];exact hn397_4)|exact hn397_4) (.slice A394_4 ((rd_T25 t356 (ji68)).f4).length c394_4)).trans hx397_3;clear hn397_0;clear hn397_1;clear hn397_2;clear hn397_3;clear hn397_4;replace p397:=eq_true p397;replace q397:=eq_true q397;have p398 : 0 ≤ (x26_7 : Int):=of_decide_eq_true (by first|(with_reducible assumption)|assumption);have q398 : x26_7 < (t388.length : Int):=of_decide_eq_true (by first|(with_reducible assumption)|assumption);obtain ⟨ad398,e398,hx398_0,hx398_1,hx398_2,hx398_3⟩:=at_T43 (Kd.R_reads' HO_24.out).2.2 x26_7 p398 q398;obtain rfl : ad396 = ad398:=(by injection e398);have hn398_0 : ad396.block ≠ gb395:=Kd.own_blk (Kd.R_ne HO_24.out BK395.out (by decide));have hn398_1 : ad396.block ≠ gb395:=Kd.own_blk (Kd.R_ne HO_24.out BK395.out (by decide));have hn398_2 : ad396.block ≠ gb395:=Kd.own_blk (Kd.R_ne HO_24.out BK395.out (by decide));have hn398_3 : ad396.block ≠ gb395:=Kd.own_blk (Kd.R_ne HO_24.out BK395.out (by decide));have hn398_4 : ad396.block ≠ gb395:=Kd.own_blk (Kd.R_ne HO_24.out BK395.out (by decide));replace hx398_0:=(cell_far (p:=⟨gb395,0,none⟩) (by first|(rw [add_block];exact hn398_0)|(show (Addr.add _ _).block ≠ _;rw [add_block];exact hn398_0)|exact hn398_0) (.string ((rd_T25 t356 (ji68)).f0))).trans hx398_0;replace hx398_1:=(cell_far (p:=⟨gb395,0,none⟩) (by first|(rw [add_block];exact hn398_0)|(show (Addr.add _ _).block ≠ _;rw [add_block];exact hn398_0)|exact hn398_0) (.string ((rd_T25 t356 (ji68)).f0))).trans hx398_1;replace hx398_2:=(cell_far (p:=⟨gb395,0,none⟩) (by first|(rw [add_block];exact hn398_0)|(show (Addr.add _ _).block ≠ _;rw [add_block];exact hn398_0)|exact hn398_0) (.string ((rd_T25 t356 (ji68)).f0))).trans hx398_2;replace hx398_3:=(cell_far (p:=⟨gb395,0,none⟩) (by first|(rw [add_block];exact hn398_0)|(show (Addr.add _ _).block ≠ _;rw [add_block];exact hn398_0)|exact hn398_0) (.string ((rd_T25 t356 (ji68)).f0))).trans hx398_3;replace hx398_0:=(cell_far (p:=⟨gb395,1,none⟩) (by first|(rw [add_block];exact hn398_1)|(show (Addr.add _ _).block ≠ _;rw [add_block];exact hn398_1)|exact hn398_1) (.int .i64 ((rd_T25 t356 (ji68)).f1))).trans hx398_0;replace hx398_1:=(cell_far (p:=⟨gb395,1,none⟩) (by first|(rw [add_block];exact hn398_1)|(show (Addr.add _ _).block ≠ _;rw [add_block];exact hn398_1)|exact hn398_1) (.int .i64 ((rd_T25 t356 (ji68)).f1))).trans hx398_1;replace hx398_2:=(cell_far (p:=⟨gb395,1,none⟩) (by first|(rw [add_block];exact hn398_1)|(show (Addr.add _ _).block ≠ _;rw [add_block];exact hn398_1)|exact hn398_1) (.int .i64 ((rd_T25 t356 (ji68)).f1))).trans hx398_2;replace hx398_3:=(cell_far (p:=⟨gb395,1,none⟩) (by first|(rw [add_block];exact hn398_1)|(show (Addr.add _ _).block ≠ _;rw [add_block];exact hn398_1)|exact hn398_1) (.int .i64 ((rd_T25 t356 (ji68)).f1))).trans hx398_3;replace hx398_0:=(cell_far (p:=⟨gb395,2,none⟩) (by first|(rw [add_block];exact hn398_2)|(show (Addr.add _ _).block ≠ _;rw [add_block];exact hn398_2)|exact hn398_2) (.bool ((rd_T25 t356 (ji68)).f2))).trans hx398_0;replace hx398_1:=(cell_far (p:=⟨gb395,2,none⟩) (by first|(rw [add_block];exact hn398_2)|(show (Addr.add _ _).block ≠ _;rw [add_block];exact hn398_2)|exact hn398_2) (.bool ((rd_T25 t356 (ji68)).f2))).trans hx398_1;replace hx398_2:=(cell_far (p:=⟨gb395,2,none⟩) (by first|(rw [add_block];exact hn398_2)|(show (Addr.add _ _).block ≠ _;rw [add_block];exact hn398_2)|exact hn398_2) (.bool ((rd_T25 t356 (ji68)).f2))).trans hx398_2;replace hx398_3:=(cell_far (p:=⟨gb395,2,none⟩) (by first|(rw [add_block];exact hn398_2)|(show (Addr.add _ _).block ≠ _;rw [add_block];exact hn398_2)|exact hn398_2) (.bool ((rd_T25 t356 (ji68)).f2))).trans hx398_3;replace hx398_0:=(cell_far (p:=⟨gb395,3,none⟩) (by first|(rw [add_block];exact hn398_3)|(show (Addr.add _ _).block ≠ _;rw [add_block];exact hn398_3)|exact hn398_3) (.string ((rd_T25 t356 (ji68)).f3))).trans hx398_0;replace hx398_1:=(cell_far (p:=⟨gb395,3,none⟩) (by first|(rw [add_block];exact hn398_3)|(show (Addr.add _ _).block ≠ _;rw [add_block];exact hn398_3)|exact hn398_3) (.string ((rd_T25 t356 (ji68)).f3))).trans hx398_1;replace hx398_2:=(cell_far (p:=⟨gb395,3,none⟩) (by first|(rw [add_block];exact hn398_3)|(show (Addr.add _ _).block ≠ _;rw [add_block];exact hn398_3)|exact hn398_3) (.string ((rd_T25 t356 (ji68)).f3))).trans hx398_2;replace hx398_3:=(cell_far (p:=⟨gb395,3,none⟩) (by first|(rw [add_block];exact hn398_3)|(show (Addr.add _ _).block ≠ _;rw [add_block];exact hn398_3)|exact hn398_3) (.string ((rd_T25 t356 (ji68)).f3))).trans hx398_3;replace hx398_0:=(cell_far (p:=⟨gb395,4,none⟩) (by first|(rw [add_block];exact hn398_4)|(show (Addr.add _ _).block ≠ _;rw [add_block];exact hn398_4)|exact hn398_4) (.slice A394_4 ((rd_T25 t356 (ji68)).f4).length c394_4)).trans hx398_0;replace hx398_1:=(cell_far (p:=⟨gb395,4,none⟩) (by first|(rw [add_block];exact hn398_4)|(show (Addr.add _ _).block ≠ _;rw [add_block];exact hn398_4)|exact hn398_4) (.slice A394_4 ((rd_T25 t356 (ji68)).f4).length c394_4)).trans hx398_1;replace hx398_2:=(cell_far (p:=⟨gb395,4,none⟩) (by first|(rw [add_block];exact hn398_4)|(show (Addr.add _ _).block ≠ _;rw [add_block];exact hn398_4)|exact hn398_4) (.slice A394_4 ((rd_T25 t356 (ji68)).f4).length c394_4)).trans hx398_2;replace hx398_3:=(cell_far (p:=⟨gb395,4,none⟩) (by first|(rw [add_block];exact hn398_4)|(show (Addr.add _ _).block ≠ _;rw [add_block];exact hn398_4)|exact hn398_4) (.slice A394_4 ((rd_T25 t356 (ji68)).f4).length c394_4)).trans hx398_3;clear hn398_0;clear hn398_1;clear hn398_2;clear hn398_3;clear hn398_4;replace p398:=eq_true p398;replace q398:=eq_true q398));try go_wp2_with (first|((with_reducible refine gate_dst (N:=27) rfl ?_);(try (refine gate_guard (by rfl) ?_;dsimp only));refine box_event ?hg (N:=27) ?hd (cs:=#[.string (⟨#[]⟩ : ByteArray),.int .i64 0,.bool false,.string (⟨#[]⟩ : ByteArray),.slice none 0 0]) (t:=25) ?hr ?_;(case hd => rfl);(case hg => rfl);(case hr => first|(go_simp;done)|(go_simp;rfl));intro gb395 hg w76 hbox hb;have n0_:=Aside0.mk (Kd.S_below (Kd.S_elderB (by (with_reducible repeat (first|apply Kd.S_alloc|apply Kd.S_drewN|apply Kd.S_drew));exact HO_11.out) gb395 (Nat.le_of_eq hg.symm)) hb);have n1_:=Aside0.mk (Kd.R_below (by (with_reducible repeat (first|apply Kd.R_alloc|apply Kd.R_drewN|apply Kd.R_drew));exact HO_24.out) hb);have n2_:=Aside0.mk (Kd.R_below (by (with_reducible repeat (first|apply Kd.R_alloc|apply Kd.R_drewN|apply Kd.R_drew));exact HO_25.out) hb);have n3_:=Aside0.mk (Kd.R_below (by (with_reducible repeat (first|apply Kd.R_alloc|apply Kd.R_drewN|apply Kd.R_drew));exact HL394_4.out) hb);have n4_:=Aside0.mk (Kd.C_below (by repeat (first|(with_reducible exact HR394_4.out)|(with_reducible refine Kd.C_alloc ?_ _)|(with_reducible refine Kd.C_drewN ?_ _)|(with_reducible refine Kd.C_drew ?_)|exact HR394_4.out)) hb);have n5_:=Aside0.mk (below_step (by repeat (first|(with_reducible first|exact HB.out|apply below_alloc|apply pw_below_drewN|apply below_drew1)|exact HB.out)) hb);have n6_:=Aside0.mk (hbox);have n7_:=Aside0.mk ((by rw [hg];exact (below_size (by repeat (first|(with_reducible first|exact HB.out|apply below_alloc|apply pw_below_drewN|apply below_drew1)|exact HB.out))) : w.heap.size ≤ gb395));have n8_:=Aside0.mk ((by rw [hg];exact (below_size (by repeat (first|(with_reducible first|exact HB.out|apply below_alloc|apply pw_below_drewN|apply below_drew1)|exact HB.out))) : w.heap.size ≤ gb395));clear HO_11;clear HO_24;clear HO_25;clear HL394_4;clear HR394_4;clear HB;have HO_11:=n0_;have HO_24:=n1_;have HO_25:=n2_;have HL394_4:=n3_;have HR394_4:=n4_;have HB:=n5_;have BK395:=n6_;have GW395:=n7_;have GE395:=n8_;clear n0_ n1_ n2_ n3_ n4_ n5_ n6_ n7_ n8_;clear hb hbox hg;have hcz77_0 : w76.cell? ⟨gb395,0,none⟩ = some (.string (⟨#[]⟩ : ByteArray)):=(blk_cell BK395.out 0).trans rfl;have hcz77_1 : w76.cell? ⟨gb395,1,none⟩ = some (.int .i64 0):=(blk_cell BK395.out 1).trans rfl;have hcz77_2 : w76.cell? ⟨gb395,2,none⟩ = some (.bool false):=(blk_cell BK395.out 2).trans rfl;have hcz77_3 : w76.cell? ⟨gb395,3,none⟩ = some (.string (⟨#[]⟩ : ByteArray)):=(blk_cell BK395.out 3).trans rfl;have hcz77_4 : w76.cell? ⟨gb395,4,none⟩ = some (.slice none 0 0):=(blk_cell BK395.out 4).trans rfl;have hfz77_0:=blk_frozen BK395.out 0;have hfz77_1:=blk_frozen BK395.out 1;have hfz77_2:=blk_frozen BK395.out 2;have hfz77_3:=blk_frozen BK395.out 3;have hfz77_4:=blk_frozen BK395.out 4;have p396 : 0 ≤ (x26_7 : Int):=of_decide_eq_true (by first|(with_reducible assumption)|assumption);have q396 : x26_7 < (t388.length : Int):=of_decide_eq_true (by first|(with_reducible assumption)|assumption);obtain ⟨ad396,e396,hx396_0,hx396_1,hx396_2,hx396_3⟩:=at_T43 (Kd.R_reads' HO_24.out).2.2 x26_7 p396 q396;cases e396;have hn396_0 : ad396.block ≠ gb395:=Kd.own_blk (Kd.R_ne HO_24.out BK395.out (by decide));have hn396_1 : ad396.block ≠ gb395:=Kd.own_blk (Kd.R_ne HO_24.out BK395.out (by decide));have hn396_2 : ad396.block ≠ gb395:=Kd.own_blk (Kd.R_ne HO_24.out BK395.out (by decide));have hn396_3 : ad396.block ≠ gb395:=Kd.own_blk (Kd.R_ne HO_24.out BK395.out (by decide));have hn396_4 : ad396.block ≠ gb395:=Kd.own_blk (Kd.R_ne HO_24.out BK395.out (by decide));replace hx396_0:=(cell_far (p:=⟨gb395,0,none⟩) (by first|(rw [add_block];exact hn396_0)|(show (Addr.add _ _).block ≠ _;rw [add_block];exact hn396_0)|exact hn396_0) (.string ((rd_T25 t356 (ji68)).f0))).trans hx396_0;replace hx396_1:=(cell_far (p:=⟨gb395,0,none⟩) (by first|(rw [add_block];exact hn396_0)|(show (Addr.add _ _).block ≠ _;rw [add_block];exact hn396_0)|exact hn396_0) (.string ((rd_T25 t356 (ji68)).f0))).trans hx396_1;replace hx396_2:=(cell_far (p:=⟨gb395,0,none⟩) (by first|(rw [add_block];exact hn396_0)|(show (Addr.add _ _).block ≠ _;rw [add_block];exact hn396_0)|exact hn396_0) (.string ((rd_T25 t356 (ji68)).f0))).trans hx396_2;replace hx396_3:=(cell_far (p:=⟨gb395,0,none⟩) (by first|(rw [add_block];exact hn396_0)|(show (Addr.add _ _).block ≠ _;rw [add_block];exact hn396_0)|exact hn396_0) (.string ((rd_T25 t356 (ji68)).f0))).trans hx396_3;replace hx396_0:=(cell_far (p:=⟨gb395,1,none⟩) (by first|(rw [add_block];exact hn396_1)|(show (Addr.add _ _).block ≠ _;rw [add_block];exact hn396_1)|exact hn396_1) (.int .i64 ((rd_T25 t356 (ji68)).f1))).trans hx396_0;replace hx396_1:=(cell_far (p:=⟨gb395,1,none⟩) (by first|(rw [add_block];exact hn396_1)|(show (Addr.add _ _).block ≠ _;rw [add_block];exact hn396_1)|exact hn396_1) (.int .i64 ((rd_T25 t356 (ji68)).f1))).trans hx396_1;replace hx396_2:=(cell_far (p:=⟨gb395,1,none⟩) (by first|(rw [add_block];exact hn396_1)|(show (Addr.add _ _).block ≠ _;rw [add_block];exact hn396_1)|exact hn396_1) (.int .i64 ((rd_T25 t356 (ji68)).f1))).trans hx396_2;replace hx396_3:=(cell_far (p:=⟨gb395,1,none⟩) (by first|(rw [add_block];exact hn396_1)|(show (Addr.add _ _).block ≠ _;rw [add_block];exact hn396_1)|exact hn396_1) (.int .i64 ((rd_T25 t356 (ji68)).f1))).trans hx396_3;replace hx396_0:=(cell_far (p:=⟨gb395,2,none⟩) (by first|(rw [add_block];exact hn396_2)|(show (Addr.add _ _).block ≠ _;rw [add_block];exact hn396_2)|exact hn396_2) (.bool ((rd_T25 t356 (ji68)).f2))).trans hx396_0;replace hx396_1:=(cell_far (p:=⟨gb395,2,none⟩) (by first|(rw [add_block];exact hn396_2)|(show (Addr.add _ _).block ≠ _;rw [add_block];exact hn396_2)|exact hn396_2) (.bool ((rd_T25 t356 (ji68)).f2))).trans hx396_1;replace hx396_2:=(cell_far (p:=⟨gb395,2,none⟩) (by first|(rw [add_block];exact hn396_2)|(show (Addr.add _ _).block ≠ _;rw [add_block];exact hn396_2)|exact hn396_2) (.bool ((rd_T25 t356 (ji68)).f2))).trans hx396_2;replace hx396_3:=(cell_far (p:=⟨gb395,2,none⟩) (by first|(rw [add_block];exact hn396_2)|(show (Addr.add _ _).block ≠ _;rw [add_block];exact hn396_2)|exact hn396_2) (.bool ((rd_T25 t356 (ji68)).f2))).trans hx396_3;replace hx396_0:=(cell_far (p:=⟨gb395,3,none⟩) (by first|(rw [add_block];exact hn396_3)|(show (Addr.add _ _).block ≠ _;rw [add_block];exact hn396_3)|exact hn396_3) (.string ((rd_T25 t356 (ji68)).f3))).trans hx396_0;replace hx396_1:=(cell_far (p:=⟨gb395,3,none⟩) (by first|(rw [add_block];exact hn396_3)|(show (Addr.add _ _).block ≠ _;rw [add_block];exact hn396_3)|exact hn396_3) (.string ((rd_T25 t356 (ji68)).f3))).trans hx396_1;replace hx396_2:=(cell_far (p:=⟨gb395,3,none⟩) (by first|(rw [add_block];exact hn396_3)|(show (Addr.add _ _).block ≠ _;rw [add_block];exact hn396_3)|exact hn396_3) (.string ((rd_T25 t356 (ji68)).f3))).trans hx396_2;replace hx396_3:=(cell_far (p:=⟨gb395,3,none⟩) (by first|(rw [add_block];exact hn396_3)|(show (Addr.add _ _).block ≠ _;rw [add_block];exact hn396_3)|exact hn396_3) (.string ((rd_T25 t356 (ji68)).f3))).trans hx396_3;replace hx396_0:=(cell_far (p:=⟨gb395,4,none⟩) (by first|(rw [add_block];exact hn396_4)|(show (Addr.add _ _).block ≠ _;rw [add_block];exact hn396_4)|exact hn396_4) (.slice A394_4 ((rd_T25 t356 (ji68)).f4).length c394_4)).trans hx396_0;replace hx396_1:=(cell_far (p:=⟨gb395,4,none⟩) (by first|(rw [add_block];exact hn396_4)|(show (Addr.add _ _).block ≠ _;rw [add_block];exact hn396_4)|exact hn396_4) (.slice A394_4 ((rd_T25 t356 (ji68)).f4).length c394_4)).trans hx396_1;replace hx396_2:=(cell_far (p:=⟨gb395,4,none⟩) (by first|(rw [add_block];exact hn396_4)|(show (Addr.add _ _).block ≠ _;rw [add_block];exact hn396_4)|exact hn396_4) (.slice A394_4 ((rd_T25 t356 (ji68)).f4).length c394_4)).trans hx396_2;replace hx396_3:=(cell_far (p:=⟨gb395,4,none⟩) (by first|(rw [add_block];exact hn396_4)|(show (Addr.add _ _).block ≠ _;rw [add_block];exact hn396_4)|exact hn396_4) (.slice A394_4 ((rd_T25 t356 (ji68)).f4).length c394_4)).trans hx396_3;clear hn396_0;clear hn396_1;clear hn396_2;clear hn396_3;clear hn396_4;replace p396:=eq_true p396;replace q396:=eq_true q396;obtain ⟨Ao78,co78,eo78⟩:=Kd.R_slice HO_25.out;subst eo78;have p397 : 0 ≤ (x26_7 : Int):=of_decide_eq_true (by first|(with_reducible assumption)|assumption);have q397 : x26_7 < (t391.length : Int):=of_decide_eq_true (by first|(with_reducible assumption)|assumption);obtain ⟨ad397,e397,hx397_0,hx397_1,hx397_2,hx397_3⟩:=at_T43 (Kd.R_reads' HO_25.out).2.2 x26_7 p397 q397;cases e397;have hn397_0 : ad397.block ≠ gb395:=Kd.own_blk (Kd.R_ne HO_25.out BK395.out (by decide));have hn397_1 : ad397.block ≠ gb395:=Kd.own_blk (Kd.R_ne HO_25.out BK395.out (by decide));have hn397_2 : ad397.block ≠ gb395:=Kd.own_blk (Kd.R_ne HO_25.out BK395.out (by decide));have hn397_3 : ad397.block ≠ gb395:=Kd.own_blk (Kd.R_ne HO_25.out BK395.out (by decide));have hn397_4 : ad397.block ≠ gb395:=Kd.own_blk (Kd.R_ne HO_25.out BK395.out (by decide));replace hx397_0:=(cell_far (p:=⟨gb395,0,none⟩) (by first|(rw [add_block];exact hn397_0)|(show (Addr.add _ _).block ≠ _;rw [add_block];exact hn397_0)|exact hn397_0) (.string ((rd_T25 t356 (ji68)).f0))).trans hx397_0;replace hx397_1:=(cell_far (p:=⟨gb395,0,none⟩) (by first|(rw [add_block];exact hn397_0)|(show (Addr.add _ _).block ≠ _;rw [add_block];exact hn397_0)|exact hn397_0) (.string ((rd_T25 t356 (ji68)).f0))).trans hx397_1;replace hx397_2:=(cell_far (p:=⟨gb395,0,none⟩) (by first|(rw [add_block];exact hn397_0)|(show (Addr.add _ _).block ≠ _;rw [add_block];exact hn397_0)|exact hn397_0) (.string ((rd_T25 t356 (ji68)).f0))).trans hx397_2;replace hx397_3:=(cell_far (p:=⟨gb395,0,none⟩) (by first|(rw [add_block];exact hn397_0)|(show (Addr.add _ _).block ≠ _;rw [add_block];exact hn397_0)|exact hn397_0) (.string ((rd_T25 t356 (ji68)).f0))).trans hx397_3;replace hx397_0:=(cell_far (p:=⟨gb395,1,none⟩) (by first|(rw [add_block];exact hn397_1)|(show (Addr.add _ _).block ≠ _;rw [add_block];exact hn397_1)|exact hn397_1) (.int .i64 ((rd_T25 t356 (ji68)).f1))).trans hx397_0;replace hx397_1:=(cell_far (p:=⟨gb395,1,none⟩) (by first|(rw [add_block];exact hn397_1)|(show (Addr.add _ _).block ≠ _;rw [add_block];exact hn397_1)|exact hn397_1) (.int .i64 ((rd_T25 t356 (ji68)).f1))).trans hx397_1;replace hx397_2:=(cell_far (p:=⟨gb395,1,none⟩) (by first|(rw [add_block];exact hn397_1)|(show (Addr.add _ _).block ≠ _;rw [add_block];exact hn397_1)|exact hn397_1) (.int .i64 ((rd_T25 t356 (ji68)).f1))).trans hx397_2;replace hx397_3:=(cell_far (p:=⟨gb395,1,none⟩) (by first|(rw [add_block];exact hn397_1)|(show (Addr.add _ _).block ≠ _;rw [add_block];exact hn397_1)|exact hn397_1) (.int .i64 ((rd_T25 t356 (ji68)).f1))).trans hx397_3;replace hx397_0:=(cell_far (p:=⟨gb395,2,none⟩) (by first|(rw [add_block];exact hn397_2)|(show (Addr.add _ _).block ≠ _;rw [add_block];exact hn397_2)|exact hn397_2) (.bool ((rd_T25 t356 (ji68)).f2))).trans hx397_0;replace hx397_1:=(cell_far (p:=⟨gb395,2,none⟩) (by first|(rw [add_block];exact hn397_2)|(show (Addr.add _ _).block ≠ _;rw [add_block];exact hn397_2)|exact hn397_2) (.bool ((rd_T25 t356 (ji68)).f2))).trans hx397_1;replace hx397_2:=(cell_far (p:=⟨gb395,2,none⟩) (by first|(rw [add_block];exact hn397_2)|(show (Addr.add _ _).block ≠ _;rw [add_block];exact hn397_2)|exact hn397_2) (.bool ((rd_T25 t356 (ji68)).f2))).trans hx397_2;replace hx397_3:=(cell_far (p:=⟨gb395,2,none⟩) (by first|(rw [add_block];exact hn397_2)|(show (Addr.add _ _).block ≠ _;rw [add_block];exact hn397_2)|exact hn397_2) (.bool ((rd_T25 t356 (ji68)).f2))).trans hx397_3;replace hx397_0:=(cell_far (p:=⟨gb395,3,none⟩) (by first|(rw [add_block];exact hn397_3)|(show (Addr.add _ _).block ≠ _;rw [add_block];exact hn397_3)|exact hn397_3) (.string ((rd_T25 t356 (ji68)).f3))).trans hx397_0;replace hx397_1:=(cell_far (p:=⟨gb395,3,none⟩) (by first|(rw [add_block];exact hn397_3)|(show (Addr.add _ _).block ≠ _;rw [add_block];exact hn397_3)|exact hn397_3) (.string ((rd_T25 t356 (ji68)).f3))).trans hx397_1;replace hx397_2:=(cell_far (p:=⟨gb395,3,none⟩) (by first|(rw [add_block];exact hn397_3)|(show (Addr.add _ _).block ≠ _;rw [add_block];exact hn397_3)|exact hn397_3) (.string ((rd_T25 t356 (ji68)).f3))).trans hx397_2;replace hx397_3:=(cell_far (p:=⟨gb395,3,none⟩) (by first|(rw [add_block];exact hn397_3)|(show (Addr.add _ _).block ≠ _;rw [add_block];exact hn397_3)|exact hn397_3) (.string ((rd_T25 t356 (ji68)).f3))).trans hx397_3;replace hx397_0:=(cell_far (p:=⟨gb395,4,none⟩) (by first|(rw [add_block];exact hn397_4)|(show (Addr.add _ _).block ≠ _;rw [add_block];exact hn397_4)|exact hn397_4) (.slice A394_4 ((rd_T25 t356 (ji68)).f4).length c394_4)).trans hx397_0;replace hx397_1:=(cell_far (p:=⟨gb395,4,none⟩) (by first|(rw [add_block];exact hn397_4)|(show (Addr.add _ _).block ≠ _;rw [add_block];exact hn397_4)|exact hn397_4) (.slice A394_4 ((rd_T25 t356 (ji68)).f4).length c394_4)).trans hx397_1;replace hx397_2:=(cell_far (p:=⟨gb395,4,none⟩) (by first|(rw [add_block];exact hn397_4)|(show (Addr.add _ _).block ≠ _;rw [add_block];exact hn397_4)|exact hn397_4) (.slice A394_4 ((rd_T25 t356 (ji68)).f4).length c394_4)).trans hx397_2;replace hx397_3:=(cell_far (p:=⟨gb395,4,none⟩) (by first|(rw [add_block];exact hn397_4)|(show (Addr.add _ _).block ≠ _;rw [add_block];exact hn397_4)|exact hn397_4) (.slice A394_4 ((rd_T25 t356 (ji68)).f4).length c394_4)).trans hx397_3;clear hn397_0;clear hn397_1;clear hn397_2;clear hn397_3;clear hn397_4;replace p397:=eq_true p397;replace q397:=eq_true q397;have p398 : 0 ≤ (x26_7 : Int):=of_decide_eq_true (by first|(with_reducible assumption)|assumption);have q398 : x26_7 < (t388.length : Int):=of_decide_eq_true (by first|(with_reducible assumption)|assumption);obtain ⟨ad398,e398,hx398_0,hx398_1,hx398_2,hx398_3⟩:=at_T43 (Kd.R_reads' HO_24.out).2.2 x26_7 p398 q398;obtain rfl : ad396 = ad398:=(by injection e398);have hn398_0 : ad396.block ≠ gb395:=Kd.own_blk (Kd.R_ne HO_24.out BK395.out (by decide));have hn398_1 : ad396.block ≠ gb395:=Kd.own_blk (Kd.R_ne HO_24.out BK395.out (by decide));have hn398_2 : ad396.block ≠ gb395:=Kd.own_blk (Kd.R_ne HO_24.out BK395.out (by decide));have hn398_3 : ad396.block ≠ gb395:=Kd.own_blk (Kd.R_ne HO_24.out BK395.out (by decide));have hn398_4 : ad396.block ≠ gb395:=Kd.own_blk (Kd.R_ne HO_24.out BK395.out (by decide));replace hx398_0:=(cell_far (p:=⟨gb395,0,none⟩) (by first|(rw [add_block];exact hn398_0)|(show (Addr.add _ _).block ≠ _;rw [add_block];exact hn398_0)|exact hn398_0) (.string ((rd_T25 t356 (ji68)).f0))).trans hx398_0;replace hx398_1:=(cell_far (p:=⟨gb395,0,none⟩) (by first|(rw [add_block];exact hn398_0)|(show (Addr.add _ _).block ≠ _;rw [add_block];exact hn398_0)|exact hn398_0) (.string ((rd_T25 t356 (ji68)).f0))).trans hx398_1;replace hx398_2:=(cell_far (p:=⟨gb395,0,none⟩) (by first|(rw [add_block];exact hn398_0)|(show (Addr.add _ _).block ≠ _;rw [add_block];exact hn398_0)|exact hn398_0) (.string ((rd_T25 t356 (ji68)).f0))).trans hx398_2;replace hx398_3:=(cell_far (p:=⟨gb395,0,none⟩) (by first|(rw [add_block];exact hn398_0)|(show (Addr.add _ _).block ≠ _;rw [add_block];exact hn398_0)|exact hn398_0) (.string ((rd_T25 t356 (ji68)).f0))).trans hx398_3;replace hx398_0:=(cell_far (p:=⟨gb395,1,none⟩) (by first|(rw [add_block];exact hn398_1)|(show (Addr.add _ _).block ≠ _;rw [add_block];exact hn398_1)|exact hn398_1) (.int .i64 ((rd_T25 t356 (ji68)).f1))).trans hx398_0;replace hx398_1:=(cell_far (p:=⟨gb395,1,none⟩) (by first|(rw [add_block];exact hn398_1)|(show (Addr.add _ _).block ≠ _;rw [add_block];exact hn398_1)|exact hn398_1) (.int .i64 ((rd_T25 t356 (ji68)).f1))).trans hx398_1;replace hx398_2:=(cell_far (p:=⟨gb395,1,none⟩) (by first|(rw [add_block];exact hn398_1)|(show (Addr.add _ _).block ≠ _;rw [add_block];exact hn398_1)|exact hn398_1) (.int .i64 ((rd_T25 t356 (ji68)).f1))).trans hx398_2;replace hx398_3:=(cell_far (p:=⟨gb395,1,none⟩) (by first|(rw [add_block];exact hn398_1)|(show (Addr.add _ _).block ≠ _;rw [add_block];exact hn398_1)|exact hn398_1) (.int .i64 ((rd_T25 t356 (ji68)).f1))).trans hx398_3;replace hx398_0:=(cell_far (p:=⟨gb395,2,none⟩) (by first|(rw [add_block];exact hn398_2)|(show (Addr.add _ _).block ≠ _;rw [add_block];exact hn398_2)|exact hn398_2) (.bool ((rd_T25 t356 (ji68)).f2))).trans hx398_0;replace hx398_1:=(cell_far (p:=⟨gb395,2,none⟩) (by first|(rw [add_block];exact hn398_2)|(show (Addr.add _ _).block ≠ _;rw [add_block];exact hn398_2)|exact hn398_2) (.bool ((rd_T25 t356 (ji68)).f2))).trans hx398_1;replace hx398_2:=(cell_far (p:=⟨gb395,2,none⟩) (by first|(rw [add_block];exact hn398_2)|(show (Addr.add _ _).block ≠ _;rw [add_block];exact hn398_2)|exact hn398_2) (.bool ((rd_T25 t356 (ji68)).f2))).trans hx398_2;replace hx398_3:=(cell_far (p:=⟨gb395,2,none⟩) (by first|(rw [add_block];exact hn398_2)|(show (Addr.add _ _).block ≠ _;rw [add_block];exact hn398_2)|exact hn398_2) (.bool ((rd_T25 t356 (ji68)).f2))).trans hx398_3;replace hx398_0:=(cell_far (p:=⟨gb395,3,none⟩) (by first|(rw [add_block];exact hn398_3)|(show (Addr.add _ _).block ≠ _;rw [add_block];exact hn398_3)|exact hn398_3) (.string ((rd_T25 t356 (ji68)).f3))).trans hx398_0;replace hx398_1:=(cell_far (p:=⟨gb395,3,none⟩) (by first|(rw [add_block];exact hn398_3)|(show (Addr.add _ _).block ≠ _;rw [add_block];exact hn398_3)|exact hn398_3) (.string ((rd_T25 t356 (ji68)).f3))).trans hx398_1;replace hx398_2:=(cell_far (p:=⟨gb395,3,none⟩) (by first|(rw [add_block];exact hn398_3)|(show (Addr.add _ _).block ≠ _;rw [add_block];exact hn398_3)|exact hn398_3) (.string ((rd_T25 t356 (ji68)).f3))).trans hx398_2;replace hx398_3:=(cell_far (p:=⟨gb395,3,none⟩) (by first|(rw [add_block];exact hn398_3)|(show (Addr.add _ _).block ≠ _;rw [add_block];exact hn398_3)|exact hn398_3) (.string ((rd_T25 t356 (ji68)).f3))).trans hx398_3;replace hx398_0:=(cell_far (p:=⟨gb395,4,none⟩) (by first|(rw [add_block];exact hn398_4)|(show (Addr.add _ _).block ≠ _;rw [add_block];exact hn398_4)|exact hn398_4) (.slice A394_4 ((rd_T25 t356 (ji68)).f4).length c394_4)).trans hx398_0;replace hx398_1:=(cell_far (p:=⟨gb395,4,none⟩) (by first|(rw [add_block];exact hn398_4)|(show (Addr.add _ _).block ≠ _;rw [add_block];exact hn398_4)|exact hn398_4) (.slice A394_4 ((rd_T25 t356 (ji68)).f4).length c394_4)).trans hx398_1;replace hx398_2:=(cell_far (p:=⟨gb395,4,none⟩) (by first|(rw [add_block];exact hn398_4)|(show (Addr.add _ _).block ≠ _;rw [add_block];exact hn398_4)|exact hn398_4) (.slice A394_4 ((rd_T25 t356 (ji68)).f4).length c394_4)).trans hx398_2;replace hx398_3:=(cell_far (p:=⟨gb395,4,none⟩) (by first|(rw [add_block];exact hn398_4)|(show (Addr.add _ _).block ≠ _;rw [add_block];exact hn398_4)|exact hn398_4) (.slice A394_4 ((rd_T25 t356 (ji68)).f4).length c394_4)).trans hx398_3;clear hn398_0;clear hn398_1;clear hn398_2;clear hn398_3;clear hn398_4;replace p398:=eq_true p398;replace q398:=eq_true q398)))
                           go_roundg k7
                           case measure => have:=HJ10.out;have:=HJ18.out;have:=HJ36.out;have:=HK4.out;have:=HK5.out;have:=HJ58.out;have:=HK7.out;omega
                           case rel => exact ⟨(wrap64 (x26_7 + 1)),(by first|rfl|(simp;done)|(simp [Go.Proofs.Ytmgiolijjheodaa.Z.bne_nil,Go.Proofs.Ytmgiolijjheodaa.Z.beq_nil];done)|(simp [*];done)),H',⟨by have:=HJ10.out;have:=HJ18.out;have:=HJ36.out;have:=HK4.out;have:=HK5.out;have:=HJ58.out;have:=HK7.out;omega⟩,⟨by (with_reducible repeat (first|apply Kd.S_alloc|apply Kd.S_drewN|apply Kd.S_drew));exact Kd.S_mono (Kd.S_far (p:=⟨gb395,4,none⟩) (Kd.S_far (p:=⟨gb395,3,none⟩) (Kd.S_far (p:=⟨gb395,2,none⟩) (Kd.S_far (p:=⟨gb395,1,none⟩) (Kd.S_far (p:=⟨gb395,0,none⟩) (Kd.S_mono HO_11.out (fun k_ hk => (⟨hk,hk.2⟩ : _ ∧ k_ ≠ gb395))) (fun _ hk => hk.2) (.string ((rd_T25 t356 (ji68)).f0))) (fun _ hk => hk.2) (.int .i64 ((rd_T25 t356 (ji68)).f1))) (fun _ hk => hk.2) (.bool ((rd_T25 t356 (ji68)).f2))) (fun _ hk => hk.2) (.string ((rd_T25 t356 (ji68)).f3))) (fun _ hk => hk.2) (.slice A394_4 ((rd_T25 t356 (ji68)).f4).length c394_4)) (fun _ hk => trivial)⟩,⟨by (with_reducible repeat (first|apply Kd.R_alloc|apply Kd.R_drewN|apply Kd.R_drew));exact Kd.R_mono (Kd.R_far (p:=⟨gb395,4,none⟩) (Kd.R_far (p:=⟨gb395,3,none⟩) (Kd.R_far (p:=⟨gb395,2,none⟩) (Kd.R_far (p:=⟨gb395,1,none⟩) (Kd.R_far (p:=⟨gb395,0,none⟩) (Kd.R_types HO_24.out BK395.out (by decide)) (fun _ hk => hk.2) (.string ((rd_T25 t356 (ji68)).f0))) (fun _ hk => hk.2) (.int .i64 ((rd_T25 t356 (ji68)).f1))) (fun _ hk => hk.2) (.bool ((rd_T25 t356 (ji68)).f2))) (fun _ hk => hk.2) (.string ((rd_T25 t356 (ji68)).f3))) (fun _ hk => hk.2) (.slice A394_4 ((rd_T25 t356 (ji68)).f4).length c394_4)) (fun _ hk => hk.1)⟩,⟨by (with_reducible repeat (first|apply Kd.R_alloc|apply Kd.R_drewN|apply Kd.R_drew));exact Kd.R_mono (Kd.R_far (p:=⟨gb395,4,none⟩) (Kd.R_far (p:=⟨gb395,3,none⟩) (Kd.R_far (p:=⟨gb395,2,none⟩) (Kd.R_far (p:=⟨gb395,1,none⟩) (Kd.R_far (p:=⟨gb395,0,none⟩) (Kd.R_types HO_25.out BK395.out (by decide)) (fun _ hk => hk.2) (.string ((rd_T25 t356 (ji68)).f0))) (fun _ hk => hk.2) (.int .i64 ((rd_T25 t356 (ji68)).f1))) (fun _ hk => hk.2) (.bool ((rd_T25 t356 (ji68)).f2))) (fun _ hk => hk.2) (.string ((rd_T25 t356 (ji68)).f3))) (fun _ hk => hk.2) (.slice A394_4 ((rd_T25 t356 (ji68)).f4).length c394_4)) (fun _ hk => hk.1)⟩,⟨by repeat (first|(with_reducible first|exact HB.out|apply below_alloc|apply pw_below_drewN|apply below_drew1|refine below_set ?_ GE395.out)|exact HB.out)⟩⟩
                         ·rw [if_neg c73] at H
                          have c73b0 : decide (x26_7 < (t391.length : Int)) = false:=decide_eq_false c73
                          clear c73
                          have H':=Aside0.mk H
                          clear H
                          obtain ⟨Ao79,co79,eo79⟩:=Kd.R_slice HO_24.out
                          subst eo79
                          have p394 : 0 ≤ ((ji68) : Int):=of_decide_eq_true (by first|(with_reducible assumption)|assumption)
                          have q394 : (ji68) < (t356.length : Int):=of_decide_eq_true (by first|(with_reducible assumption)|assumption)
                          obtain ⟨ad394,A394_4,c394_4,e394,hx394_0,hx394_1,hx394_2,hx394_3,hx394_4,hl394_4,hi394_4⟩:=at_T25 (Kd.S_reads' HO_11.out).2.2 (ji68) p394 q394
                          cases e394
                          obtain ⟨ce394,hce394,hMe394,hcc394⟩:=Kd.S_get HO_11.out z25 (ji68) p394 (by first|exact q394|exact of_decide_eq_true (by first|(with_reducible assumption)|assumption)|(have e_:=(Kd.S_reads' HO_11.out).1;omega))
                          obtain ⟨ve394_4,rfl,ge394_4⟩:=k25_openM hMe394
                          have hv394_4:=hcc394 4 _ rfl
                          rw [add_field _ _ 4 (by omega)] at hv394_4
                          replace hv394_4:=Option.some.inj (hv394_4.symm.trans hx394_4)
                          rw [hv394_4] at ge394_4
                          have HL394_4:=Aside0.mk (show Kd.R k49 49 _ _ _ _ ((rd_T25 t356 (ji68)).f4) from ge394_4)
                          clear hv394_4 ge394_4
                          clear hcc394 hce394
                          have HR394_4:=Aside0.mk hi394_4
                          have HC394_4:=Aside0.mk hl394_4
                          clear hi394_4 hl394_4
                          replace p394:=eq_true p394
                          replace q394:=eq_true q394
                          go_wp2_with (first|((with_reducible refine gate_dst (N:=27) rfl ?_);(try (refine gate_guard (by rfl) ?_;dsimp only));refine box_event ?hg (N:=27) ?hd (cs:=#[.string (⟨#[]⟩ : ByteArray),.int .i64 0,.bool false,.string (⟨#[]⟩ : ByteArray),.slice none 0 0]) (t:=25) ?hr ?_;(case hd => rfl);(case hg => rfl);(case hr => first|(go_simp;done)|(go_simp;rfl));intro gb395 hg w80 hbox hb;have n0_:=Aside0.mk (Kd.S_below (Kd.S_elderB (by (with_reducible repeat (first|apply Kd.S_alloc|apply Kd.S_drewN|apply Kd.S_drew));exact HO_11.out) gb395 (Nat.le_of_eq hg.symm)) hb);have n1_:=Aside0.mk (Kd.R_below (by (with_reducible repeat (first|apply Kd.R_alloc|apply Kd.R_drewN|apply Kd.R_drew));exact HO_24.out) hb);have n2_:=Aside0.mk (Kd.R_below (by (with_reducible repeat (first|apply Kd.R_alloc|apply Kd.R_drewN|apply Kd.R_drew));exact HO_25.out) hb);have n3_:=Aside0.mk (Kd.R_below (by (with_reducible repeat (first|apply Kd.R_alloc|apply Kd.R_drewN|apply Kd.R_drew));exact HL394_4.out) hb);have n4_:=Aside0.mk (Kd.C_below (by repeat (first|(with_reducible exact HR394_4.out)|(with_reducible refine Kd.C_alloc ?_ _)|(with_reducible refine Kd.C_drewN ?_ _)|(with_reducible refine Kd.C_drew ?_)|exact HR394_4.out)) hb);have n5_:=Aside0.mk (below_step (by repeat (first|(with_reducible first|exact HB.out|apply below_alloc|apply pw_below_drewN|apply below_drew1)|exact HB.out)) hb);have n6_:=Aside0.mk (hbox);have n7_:=Aside0.mk ((by rw [hg];exact (below_size (by repeat (first|(with_reducible first|exact HB.out|apply below_alloc|apply pw_below_drewN|apply below_drew1)|exact HB.out))) : w.heap.size ≤ gb395));have n8_:=Aside0.mk ((by rw [hg];exact (below_size (by repeat (first|(with_reducible first|exact HB.out|apply below_alloc|apply pw_below_drewN|apply below_drew1)|exact HB.out))) : w.heap.size ≤ gb395));clear HO_11;clear HO_24;clear HO_25;clear HL394_4;clear HR394_4;clear HB;have HO_11:=n0_;have HO_24:=n1_;have HO_25:=n2_;have HL394_4:=n3_;have HR394_4:=n4_;have HB:=n5_;have BK395:=n6_;have GW395:=n7_;have GE395:=n8_;clear n0_ n1_ n2_ n3_ n4_ n5_ n6_ n7_ n8_;clear hb hbox hg;have hcz81_0 : w80.cell? ⟨gb395,0,none⟩ = some (.string (⟨#[]⟩ : ByteArray)):=(blk_cell BK395.out 0).trans rfl;have hcz81_1 : w80.cell? ⟨gb395,1,none⟩ = some (.int .i64 0):=(blk_cell BK395.out 1).trans rfl;have hcz81_2 : w80.cell? ⟨gb395,2,none⟩ = some (.bool false):=(blk_cell BK395.out 2).trans rfl;have hcz81_3 : w80.cell? ⟨gb395,3,none⟩ = some (.string (⟨#[]⟩ : ByteArray)):=(blk_cell BK395.out 3).trans rfl;have hcz81_4 : w80.cell? ⟨gb395,4,none⟩ = some (.slice none 0 0):=(blk_cell BK395.out 4).trans rfl;have hfz81_0:=blk_frozen BK395.out 0;have hfz81_1:=blk_frozen BK395.out 1;have hfz81_2:=blk_frozen BK395.out 2;have hfz81_3:=blk_frozen BK395.out 3;have hfz81_4:=blk_frozen BK395.out 4;have p396 : 0 ≤ (x26_7 : Int):=of_decide_eq_true (by first|(with_reducible assumption)|assumption);have q396 : x26_7 < (t388.length : Int):=of_decide_eq_true (by first|(with_reducible assumption)|assumption);obtain ⟨ad396,e396,hx396_0,hx396_1,hx396_2,hx396_3⟩:=at_T43 (Kd.R_reads' HO_24.out).2.2 x26_7 p396 q396;cases e396;have hn396_0 : ad396.block ≠ gb395:=Kd.own_blk (Kd.R_ne HO_24.out BK395.out (by decide));have hn396_1 : ad396.block ≠ gb395:=Kd.own_blk (Kd.R_ne HO_24.out BK395.out (by decide));have hn396_2 : ad396.block ≠ gb395:=Kd.own_blk (Kd.R_ne HO_24.out BK395.out (by decide));have hn396_3 : ad396.block ≠ gb395:=Kd.own_blk (Kd.R_ne HO_24.out BK395.out (by decide));have hn396_4 : ad396.block ≠ gb395:=Kd.own_blk (Kd.R_ne HO_24.out BK395.out (by decide));replace hx396_0:=(cell_far (p:=⟨gb395,0,none⟩) (by first|(rw [add_block];exact hn396_0)|(show (Addr.add _ _).block ≠ _;rw [add_block];exact hn396_0)|exact hn396_0) (.string ((rd_T25 t356 (ji68)).f0))).trans hx396_0;replace hx396_1:=(cell_far (p:=⟨gb395,0,none⟩) (by first|(rw [add_block];exact hn396_0)|(show (Addr.add _ _).block ≠ _;rw [add_block];exact hn396_0)|exact hn396_0) (.string ((rd_T25 t356 (ji68)).f0))).trans hx396_1;replace hx396_2:=(cell_far (p:=⟨gb395,0,none⟩) (by first|(rw [add_block];exact hn396_0)|(show (Addr.add _ _).block ≠ _;rw [add_block];exact hn396_0)|exact hn396_0) (.string ((rd_T25 t356 (ji68)).f0))).trans hx396_2;replace hx396_3:=(cell_far (p:=⟨gb395,0,none⟩) (by first|(rw [add_block];exact hn396_0)|(show (Addr.add _ _).block ≠ _;rw [add_block];exact hn396_0)|exact hn396_0) (.string ((rd_T25 t356 (ji68)).f0))).trans hx396_3;replace hx396_0:=(cell_far (p:=⟨gb395,1,none⟩) (by first|(rw [add_block];exact hn396_1)|(show (Addr.add _ _).block ≠ _;rw [add_block];exact hn396_1)|exact hn396_1) (.int .i64 ((rd_T25 t356 (ji68)).f1))).trans hx396_0;replace hx396_1:=(cell_far (p:=⟨gb395,1,none⟩) (by first|(rw [add_block];exact hn396_1)|(show (Addr.add _ _).block ≠ _;rw [add_block];exact hn396_1)|exact hn396_1) (.int .i64 ((rd_T25 t356 (ji68)).f1))).trans hx396_1;replace hx396_2:=(cell_far (p:=⟨gb395,1,none⟩) (by first|(rw [add_block];exact hn396_1)|(show (Addr.add _ _).block ≠ _;rw [add_block];exact hn396_1)|exact hn396_1) (.int .i64 ((rd_T25 t356 (ji68)).f1))).trans hx396_2;replace hx396_3:=(cell_far (p:=⟨gb395,1,none⟩) (by first|(rw [add_block];exact hn396_1)|(show (Addr.add _ _).block ≠ _;rw [add_block];exact hn396_1)|exact hn396_1) (.int .i64 ((rd_T25 t356 (ji68)).f1))).trans hx396_3;replace hx396_0:=(cell_far (p:=⟨gb395,2,none⟩) (by first|(rw [add_block];exact hn396_2)|(show (Addr.add _ _).block ≠ _;rw [add_block];exact hn396_2)|exact hn396_2) (.bool ((rd_T25 t356 (ji68)).f2))).trans hx396_0;replace hx396_1:=(cell_far (p:=⟨gb395,2,none⟩) (by first|(rw [add_block];exact hn396_2)|(show (Addr.add _ _).block ≠ _;rw [add_block];exact hn396_2)|exact hn396_2) (.bool ((rd_T25 t356 (ji68)).f2))).trans hx396_1;replace hx396_2:=(cell_far (p:=⟨gb395,2,none⟩) (by first|(rw [add_block];exact hn396_2)|(show (Addr.add _ _).block ≠ _;rw [add_block];exact hn396_2)|exact hn396_2) (.bool ((rd_T25 t356 (ji68)).f2))).trans hx396_2;replace hx396_3:=(cell_far (p:=⟨gb395,2,none⟩) (by first|(rw [add_block];exact hn396_2)|(show (Addr.add _ _).block ≠ _;rw [add_block];exact hn396_2)|exact hn396_2) (.bool ((rd_T25 t356 (ji68)).f2))).trans hx396_3;replace hx396_0:=(cell_far (p:=⟨gb395,3,none⟩) (by first|(rw [add_block];exact hn396_3)|(show (Addr.add _ _).block ≠ _;rw [add_block];exact hn396_3)|exact hn396_3) (.string ((rd_T25 t356 (ji68)).f3))).trans hx396_0;replace hx396_1:=(cell_far (p:=⟨gb395,3,none⟩) (by first|(rw [add_block];exact hn396_3)|(show (Addr.add _ _).block ≠ _;rw [add_block];exact hn396_3)|exact hn396_3) (.string ((rd_T25 t356 (ji68)).f3))).trans hx396_1;replace hx396_2:=(cell_far (p:=⟨gb395,3,none⟩) (by first|(rw [add_block];exact hn396_3)|(show (Addr.add _ _).block ≠ _;rw [add_block];exact hn396_3)|exact hn396_3) (.string ((rd_T25 t356 (ji68)).f3))).trans hx396_2;replace hx396_3:=(cell_far (p:=⟨gb395,3,none⟩) (by first|(rw [add_block];exact hn396_3)|(show (Addr.add _ _).block ≠ _;rw [add_block];exact hn396_3)|exact hn396_3) (.string ((rd_T25 t356 (ji68)).f3))).trans hx396_3;replace hx396_0:=(cell_far (p:=⟨gb395,4,none⟩) (by first|(rw [add_block];exact hn396_4)|(show (Addr.add _ _).block ≠ _;rw [add_block];exact hn396_4)|exact hn396_4) (.slice A394_4 ((rd_T25 t356 (ji68)).f4).length c394_4)).trans hx396_0;replace hx396_1:=(cell_far (p:=⟨gb395,4,none⟩) (by first|(rw [add_block];exact hn396_4)|(show (Addr.add _ _).block ≠ _;rw [add_block];exact hn396_4)|exact hn396_4) (.slice A394_4 ((rd_T25 t356 (ji68)).f4).length c394_4)).trans hx396_1;replace hx396_2:=(cell_far (p:=⟨gb395,4,none⟩) (by first|(rw [add_block];exact hn396_4)|(show (Addr.add _ _).block ≠ _;rw [add_block];exact hn396_4)|exact hn396_4) (.slice A394_4 ((rd_T25 t356 (ji68)).f4).length c394_4)).trans hx396_2;replace hx396_3:=(cell_far (p:=⟨gb395,4,none⟩) (by first|(rw [add_block];exact hn396_4)|(show (Addr.add _ _).block ≠ _;rw [add_block];exact hn396_4)|exact hn396_4) (.slice A394_4 ((rd_T25 t356 (ji68)).f4).length c394_4)).trans hx396_3;clear hn396_0;clear hn396_1;clear hn396_2;clear hn396_3;clear hn396_4;replace p396:=eq_true p396;replace q396:=eq_true q396;obtain ⟨Ao82,co82,eo82⟩:=Kd.R_slice HO_25.out;subst eo82))
                          repeat (go_quiet (first|((with_reducible refine gate_dst (N:=27) rfl ?_);(try (refine gate_guard (by rfl) ?_;dsimp only));refine box_event ?hg (N:=27) ?hd (cs:=#[.string (⟨#[]⟩ : ByteArray),.int .i64 0,.bool false,.string (⟨#[]⟩ : ByteArray),.slice none 0 0]) (t:=25) ?hr ?_;(case hd => rfl);(case hg => rfl);(case hr => first|(go_simp;done)|(go_simp;rfl));intro gb395 hg w80 hbox hb;have n0_:=Aside0.mk (Kd.S_below (Kd.S_elderB (by (with_reducible repeat (first|apply Kd.S_alloc|apply Kd.S_drewN|apply Kd.S_drew));exact HO_11.out) gb395 (Nat.le_of_eq hg.symm)) hb);have n1_:=Aside0.mk (Kd.R_below (by (with_reducible repeat (first|apply Kd.R_alloc|apply Kd.R_drewN|apply Kd.R_drew));exact HO_24.out) hb);have n2_:=Aside0.mk (Kd.R_below (by (with_reducible repeat (first|apply Kd.R_alloc|apply Kd.R_drewN|apply Kd.R_drew));exact HO_25.out) hb);have n3_:=Aside0.mk (Kd.R_below (by (with_reducible repeat (first|apply Kd.R_alloc|apply Kd.R_drewN|apply Kd.R_drew));exact HL394_4.out) hb);have n4_:=Aside0.mk (Kd.C_below (by repeat (first|(with_reducible exact HR394_4.out)|(with_reducible refine Kd.C_alloc ?_ _)|(with_reducible refine Kd.C_drewN ?_ _)|(with_reducible refine Kd.C_drew ?_)|exact HR394_4.out)) hb);have n5_:=Aside0.mk (below_step (by repeat (first|(with_reducible first|exact HB.out|apply below_alloc|apply pw_below_drewN|apply below_drew1)|exact HB.out)) hb);have n6_:=Aside0.mk (hbox);have n7_:=Aside0.mk ((by rw [hg];exact (below_size (by repeat (first|(with_reducible first|exact HB.out|apply below_alloc|apply pw_below_drewN|apply below_drew1)|exact HB.out))) : w.heap.size ≤ gb395));have n8_:=Aside0.mk ((by rw [hg];exact (below_size (by repeat (first|(with_reducible first|exact HB.out|apply below_alloc|apply pw_below_drewN|apply below_drew1)|exact HB.out))) : w.heap.size ≤ gb395));clear HO_11;clear HO_24;clear HO_25;clear HL394_4;clear HR394_4;clear HB;have HO_11:=n0_;have HO_24:=n1_;have HO_25:=n2_;have HL394_4:=n3_;have HR394_4:=n4_;have HB:=n5_;have BK395:=n6_;have GW395:=n7_;have GE395:=n8_;clear n0_ n1_ n2_ n3_ n4_ n5_ n6_ n7_ n8_;clear hb hbox hg;have hcz81_0 : w80.cell? ⟨gb395,0,none⟩ = some (.string (⟨#[]⟩ : ByteArray)):=(blk_cell BK395.out 0).trans rfl;have hcz81_1 : w80.cell? ⟨gb395,1,none⟩ = some (.int .i64 0):=(blk_cell BK395.out 1).trans rfl;have hcz81_2 : w80.cell? ⟨gb395,2,none⟩ = some (.bool false):=(blk_cell BK395.out 2).trans rfl;have hcz81_3 : w80.cell? ⟨gb395,3,none⟩ = some (.string (⟨#[]⟩ : ByteArray)):=(blk_cell BK395.out 3).trans rfl;have hcz81_4 : w80.cell? ⟨gb395,4,none⟩ = some (.slice none 0 0):=(blk_cell BK395.out 4).trans rfl;have hfz81_0:=blk_frozen BK395.out 0;have hfz81_1:=blk_frozen BK395.out 1;have hfz81_2:=blk_frozen BK395.out 2;have hfz81_3:=blk_frozen BK395.out 3;have hfz81_4:=blk_frozen BK395.out 4;have p396 : 0 ≤ (x26_7 : Int):=of_decide_eq_true (by first|(with_reducible assumption)|assumption);have q396 : x26_7 < (t388.length : Int):=of_decide_eq_true (by first|(with_reducible assumption)|assumption);obtain ⟨ad396,e396,hx396_0,hx396_1,hx396_2,hx396_3⟩:=at_T43 (Kd.R_reads' HO_24.out).2.2 x26_7 p396 q396;cases e396;have hn396_0 : ad396.block ≠ gb395:=Kd.own_blk (Kd.R_ne HO_24.out BK395.out (by decide));have hn396_1 : ad396.block ≠ gb395:=Kd.own_blk (Kd.R_ne HO_24.out BK395.out (by decide));have hn396_2 : ad396.block ≠ gb395:=Kd.own_blk (Kd.R_ne HO_24.out BK395.out (by decide));have hn396_3 : ad396.block ≠ gb395:=Kd.own_blk (Kd.R_ne HO_24.out BK395.out (by decide));have hn396_4 : ad396.block ≠ gb395:=Kd.own_blk (Kd.R_ne HO_24.out BK395.out (by decide));replace hx396_0:=(cell_far (p:=⟨gb395,0,none⟩) (by first|(rw [add_block];exact hn396_0)|(show (Addr.add _ _).block ≠ _;rw [add_block];exact hn396_0)|exact hn396_0) (.string ((rd_T25 t356 (ji68)).f0))).trans hx396_0;replace hx396_1:=(cell_far (p:=⟨gb395,0,none⟩) (by first|(rw [add_block];exact hn396_0)|(show (Addr.add _ _).block ≠ _;rw [add_block];exact hn396_0)|exact hn396_0) (.string ((rd_T25 t356 (ji68)).f0))).trans hx396_1;replace hx396_2:=(cell_far (p:=⟨gb395,0,none⟩) (by first|(rw [add_block];exact hn396_0)|(show (Addr.add _ _).block ≠ _;rw [add_block];exact hn396_0)|exact hn396_0) (.string ((rd_T25 t356 (ji68)).f0))).trans hx396_2;replace hx396_3:=(cell_far (p:=⟨gb395,0,none⟩) (by first|(rw [add_block];exact hn396_0)|(show (Addr.add _ _).block ≠ _;rw [add_block];exact hn396_0)|exact hn396_0) (.string ((rd_T25 t356 (ji68)).f0))).trans hx396_3;replace hx396_0:=(cell_far (p:=⟨gb395,1,none⟩) (by first|(rw [add_block];exact hn396_1)|(show (Addr.add _ _).block ≠ _;rw [add_block];exact hn396_1)|exact hn396_1) (.int .i64 ((rd_T25 t356 (ji68)).f1))).trans hx396_0;replace hx396_1:=(cell_far (p:=⟨gb395,1,none⟩) (by first|(rw [add_block];exact hn396_1)|(show (Addr.add _ _).block ≠ _;rw [add_block];exact hn396_1)|exact hn396_1) (.int .i64 ((rd_T25 t356 (ji68)).f1))).trans hx396_1;replace hx396_2:=(cell_far (p:=⟨gb395,1,none⟩) (by first|(rw [add_block];exact hn396_1)|(show (Addr.add _ _).block ≠ _;rw [add_block];exact hn396_1)|exact hn396_1) (.int .i64 ((rd_T25 t356 (ji68)).f1))).trans hx396_2;replace hx396_3:=(cell_far (p:=⟨gb395,1,none⟩) (by first|(rw [add_block];exact hn396_1)|(show (Addr.add _ _).block ≠ _;rw [add_block];exact hn396_1)|exact hn396_1) (.int .i64 ((rd_T25 t356 (ji68)).f1))).trans hx396_3;replace hx396_0:=(cell_far (p:=⟨gb395,2,none⟩) (by first|(rw [add_block];exact hn396_2)|(show (Addr.add _ _).block ≠ _;rw [add_block];exact hn396_2)|exact hn396_2) (.bool ((rd_T25 t356 (ji68)).f2))).trans hx396_0;replace hx396_1:=(cell_far (p:=⟨gb395,2,none⟩) (by first|(rw [add_block];exact hn396_2)|(show (Addr.add _ _).block ≠ _;rw [add_block];exact hn396_2)|exact hn396_2) (.bool ((rd_T25 t356 (ji68)).f2))).trans hx396_1;replace hx396_2:=(cell_far (p:=⟨gb395,2,none⟩) (by first|(rw [add_block];exact hn396_2)|(show (Addr.add _ _).block ≠ _;rw [add_block];exact hn396_2)|exact hn396_2) (.bool ((rd_T25 t356 (ji68)).f2))).trans hx396_2;replace hx396_3:=(cell_far (p:=⟨gb395,2,none⟩) (by first|(rw [add_block];exact hn396_2)|(show (Addr.add _ _).block ≠ _;rw [add_block];exact hn396_2)|exact hn396_2) (.bool ((rd_T25 t356 (ji68)).f2))).trans hx396_3;replace hx396_0:=(cell_far (p:=⟨gb395,3,none⟩) (by first|(rw [add_block];exact hn396_3)|(show (Addr.add _ _).block ≠ _;rw [add_block];exact hn396_3)|exact hn396_3) (.string ((rd_T25 t356 (ji68)).f3))).trans hx396_0;replace hx396_1:=(cell_far (p:=⟨gb395,3,none⟩) (by first|(rw [add_block];exact hn396_3)|(show (Addr.add _ _).block ≠ _;rw [add_block];exact hn396_3)|exact hn396_3) (.string ((rd_T25 t356 (ji68)).f3))).trans hx396_1;replace hx396_2:=(cell_far (p:=⟨gb395,3,none⟩) (by first|(rw [add_block];exact hn396_3)|(show (Addr.add _ _).block ≠ _;rw [add_block];exact hn396_3)|exact hn396_3) (.string ((rd_T25 t356 (ji68)).f3))).trans hx396_2;replace hx396_3:=(cell_far (p:=⟨gb395,3,none⟩) (by first|(rw [add_block];exact hn396_3)|(show (Addr.add _ _).block ≠ _;rw [add_block];exact hn396_3)|exact hn396_3) (.string ((rd_T25 t356 (ji68)).f3))).trans hx396_3;replace hx396_0:=(cell_far (p:=⟨gb395,4,none⟩) (by first|(rw [add_block];exact hn396_4)|(show (Addr.add _ _).block ≠ _;rw [add_block];exact hn396_4)|exact hn396_4) (.slice A394_4 ((rd_T25 t356 (ji68)).f4).length c394_4)).trans hx396_0;replace hx396_1:=(cell_far (p:=⟨gb395,4,none⟩) (by first|(rw [add_block];exact hn396_4)|(show (Addr.add _ _).block ≠ _;rw [add_block];exact hn396_4)|exact hn396_4) (.slice A394_4 ((rd_T25 t356 (ji68)).f4).length c394_4)).trans hx396_1;replace hx396_2:=(cell_far (p:=⟨gb395,4,none⟩) (by first|(rw [add_block];exact hn396_4)|(show (Addr.add _ _).block ≠ _;rw [add_block];exact hn396_4)|exact hn396_4) (.slice A394_4 ((rd_T25 t356 (ji68)).f4).length c394_4)).trans hx396_2;replace hx396_3:=(cell_far (p:=⟨gb395,4,none⟩) (by first|(rw [add_block];exact hn396_4)|(show (Addr.add _ _).block ≠ _;rw [add_block];exact hn396_4)|exact hn396_4) (.slice A394_4 ((rd_T25 t356 (ji68)).f4).length c394_4)).trans hx396_3;clear hn396_0;clear hn396_1;clear hn396_2;clear hn396_3;clear hn396_4;replace p396:=eq_true p396;replace q396:=eq_true q396;obtain ⟨Ao82,co82,eo82⟩:=Kd.R_slice HO_25.out;subst eo82));try go_wp2_with (first|((with_reducible refine gate_dst (N:=27) rfl ?_);(try (refine gate_guard (by rfl) ?_;dsimp only));refine box_event ?hg (N:=27) ?hd (cs:=#[.string (⟨#[]⟩ : ByteArray),.int .i64 0,.bool false,.string (⟨#[]⟩ : ByteArray),.slice none 0 0]) (t:=25) ?hr ?_;(case hd => rfl);(case hg => rfl);(case hr => first|(go_simp;done)|(go_simp;rfl));intro gb395 hg w80 hbox hb;have n0_:=Aside0.mk (Kd.S_below (Kd.S_elderB (by (with_reducible repeat (first|apply Kd.S_alloc|apply Kd.S_drewN|apply Kd.S_drew));exact HO_11.out) gb395 (Nat.le_of_eq hg.symm)) hb);have n1_:=Aside0.mk (Kd.R_below (by (with_reducible repeat (first|apply Kd.R_alloc|apply Kd.R_drewN|apply Kd.R_drew));exact HO_24.out) hb);have n2_:=Aside0.mk (Kd.R_below (by (with_reducible repeat (first|apply Kd.R_alloc|apply Kd.R_drewN|apply Kd.R_drew));exact HO_25.out) hb);have n3_:=Aside0.mk (Kd.R_below (by (with_reducible repeat (first|apply Kd.R_alloc|apply Kd.R_drewN|apply Kd.R_drew));exact HL394_4.out) hb);have n4_:=Aside0.mk (Kd.C_below (by repeat (first|(with_reducible exact HR394_4.out)|(with_reducible refine Kd.C_alloc ?_ _)|(with_reducible refine Kd.C_drewN ?_ _)|(with_reducible refine Kd.C_drew ?_)|exact HR394_4.out)) hb);have n5_:=Aside0.mk (below_step (by repeat (first|(with_reducible first|exact HB.out|apply below_alloc|apply pw_below_drewN|apply below_drew1)|exact HB.out)) hb);have n6_:=Aside0.mk (hbox);have n7_:=Aside0.mk ((by rw [hg];exact (below_size (by repeat (first|(with_reducible first|exact HB.out|apply below_alloc|apply pw_below_drewN|apply below_drew1)|exact HB.out))) : w.heap.size ≤ gb395));have n8_:=Aside0.mk ((by rw [hg];exact (below_size (by repeat (first|(with_reducible first|exact HB.out|apply below_alloc|apply pw_below_drewN|apply below_drew1)|exact HB.out))) : w.heap.size ≤ gb395));clear HO_11;clear HO_24;clear HO_25;clear HL394_4;clear HR394_4;clear HB;have HO_11:=n0_;have HO_24:=n1_;have HO_25:=n2_;have HL394_4:=n3_;have HR394_4:=n4_;have HB:=n5_;have BK395:=n6_;have GW395:=n7_;have GE395:=n8_;clear n0_ n1_ n2_ n3_ n4_ n5_ n6_ n7_ n8_;clear hb hbox hg;have hcz81_0 : w80.cell? ⟨gb395,0,none⟩ = some (.string (⟨#[]⟩ : ByteArray)):=(blk_cell BK395.out 0).trans rfl;have hcz81_1 : w80.cell? ⟨gb395,1,none⟩ = some (.int .i64 0):=(blk_cell BK395.out 1).trans rfl;have hcz81_2 : w80.cell? ⟨gb395,2,none⟩ = some (.bool false):=(blk_cell BK395.out 2).trans rfl;have hcz81_3 : w80.cell? ⟨gb395,3,none⟩ = some (.string (⟨#[]⟩ : ByteArray)):=(blk_cell BK395.out 3).trans rfl;have hcz81_4 : w80.cell? ⟨gb395,4,none⟩ = some (.slice none 0 0):=(blk_cell BK395.out 4).trans rfl;have hfz81_0:=blk_frozen BK395.out 0;have hfz81_1:=blk_frozen BK395.out 1;have hfz81_2:=blk_frozen BK395.out 2;have hfz81_3:=blk_frozen BK395.out 3;have hfz81_4:=blk_frozen BK395.out 4;have p396 : 0 ≤ (x26_7 : Int):=of_decide_eq_true (by first|(with_reducible assumption)|assumption);have q396 : x26_7 < (t388.length : Int):=of_decide_eq_true (by first|(with_reducible assumption)|assumption);obtain ⟨ad396,e396,hx396_0,hx396_1,hx396_2,hx396_3⟩:=at_T43 (Kd.R_reads' HO_24.out).2.2 x26_7 p396 q396;cases e396;have hn396_0 : ad396.block ≠ gb395:=Kd.own_blk (Kd.R_ne HO_24.out BK395.out (by decide));have hn396_1 : ad396.block ≠ gb395:=Kd.own_blk (Kd.R_ne HO_24.out BK395.out (by decide));have hn396_2 : ad396.block ≠ gb395:=Kd.own_blk (Kd.R_ne HO_24.out BK395.out (by decide));have hn396_3 : ad396.block ≠ gb395:=Kd.own_blk (Kd.R_ne HO_24.out BK395.out (by decide));have hn396_4 : ad396.block ≠ gb395:=Kd.own_blk (Kd.R_ne HO_24.out BK395.out (by decide));replace hx396_0:=(cell_far (p:=⟨gb395,0,none⟩) (by first|(rw [add_block];exact hn396_0)|(show (Addr.add _ _).block ≠ _;rw [add_block];exact hn396_0)|exact hn396_0) (.string ((rd_T25 t356 (ji68)).f0))).trans hx396_0;replace hx396_1:=(cell_far (p:=⟨gb395,0,none⟩) (by first|(rw [add_block];exact hn396_0)|(show (Addr.add _ _).block ≠ _;rw [add_block];exact hn396_0)|exact hn396_0) (.string ((rd_T25 t356 (ji68)).f0))).trans hx396_1;replace hx396_2:=(cell_far (p:=⟨gb395,0,none⟩) (by first|(rw [add_block];exact hn396_0)|(show (Addr.add _ _).block ≠ _;rw [add_block];exact hn396_0)|exact hn396_0) (.string ((rd_T25 t356 (ji68)).f0))).trans hx396_2;replace hx396_3:=(cell_far (p:=⟨gb395,0,none⟩) (by first|(rw [add_block];exact hn396_0)|(show (Addr.add _ _).block ≠ _;rw [add_block];exact hn396_0)|exact hn396_0) (.string ((rd_T25 t356 (ji68)).f0))).trans hx396_3;replace hx396_0:=(cell_far (p:=⟨gb395,1,none⟩) (by first|(rw [add_block];exact hn396_1)|(show (Addr.add _ _).block ≠ _;rw [add_block];exact hn396_1)|exact hn396_1) (.int .i64 ((rd_T25 t356 (ji68)).f1))).trans hx396_0;replace hx396_1:=(cell_far (p:=⟨gb395,1,none⟩) (by first|(rw [add_block];exact hn396_1)|(show (Addr.add _ _).block ≠ _;rw [add_block];exact hn396_1)|exact hn396_1) (.int .i64 ((rd_T25 t356 (ji68)).f1))).trans hx396_1;replace hx396_2:=(cell_far (p:=⟨gb395,1,none⟩) (by first|(rw [add_block];exact hn396_1)|(show (Addr.add _ _).block ≠ _;rw [add_block];exact hn396_1)|exact hn396_1) (.int .i64 ((rd_T25 t356 (ji68)).f1))).trans hx396_2;replace hx396_3:=(cell_far (p:=⟨gb395,1,none⟩) (by first|(rw [add_block];exact hn396_1)|(show (Addr.add _ _).block ≠ _;rw [add_block];exact hn396_1)|exact hn396_1) (.int .i64 ((rd_T25 t356 (ji68)).f1))).trans hx396_3;replace hx396_0:=(cell_far (p:=⟨gb395,2,none⟩) (by first|(rw [add_block];exact hn396_2)|(show (Addr.add _ _).block ≠ _;rw [add_block];exact hn396_2)|exact hn396_2) (.bool ((rd_T25 t356 (ji68)).f2))).trans hx396_0;replace hx396_1:=(cell_far (p:=⟨gb395,2,none⟩) (by first|(rw [add_block];exact hn396_2)|(show (Addr.add _ _).block ≠ _;rw [add_block];exact hn396_2)|exact hn396_2) (.bool ((rd_T25 t356 (ji68)).f2))).trans hx396_1;replace hx396_2:=(cell_far (p:=⟨gb395,2,none⟩) (by first|(rw [add_block];exact hn396_2)|(show (Addr.add _ _).block ≠ _;rw [add_block];exact hn396_2)|exact hn396_2) (.bool ((rd_T25 t356 (ji68)).f2))).trans hx396_2;replace hx396_3:=(cell_far (p:=⟨gb395,2,none⟩) (by first|(rw [add_block];exact hn396_2)|(show (Addr.add _ _).block ≠ _;rw [add_block];exact hn396_2)|exact hn396_2) (.bool ((rd_T25 t356 (ji68)).f2))).trans hx396_3;replace hx396_0:=(cell_far (p:=⟨gb395,3,none⟩) (by first|(rw [add_block];exact hn396_3)|(show (Addr.add _ _).block ≠ _;rw [add_block];exact hn396_3)|exact hn396_3) (.string ((rd_T25 t356 (ji68)).f3))).trans hx396_0;replace hx396_1:=(cell_far (p:=⟨gb395,3,none⟩) (by first|(rw [add_block];exact hn396_3)|(show (Addr.add _ _).block ≠ _;rw [add_block];exact hn396_3)|exact hn396_3) (.string ((rd_T25 t356 (ji68)).f3))).trans hx396_1;replace hx396_2:=(cell_far (p:=⟨gb395,3,none⟩) (by first|(rw [add_block];exact hn396_3)|(show (Addr.add _ _).block ≠ _;rw [add_block];exact hn396_3)|exact hn396_3) (.string ((rd_T25 t356 (ji68)).f3))).trans hx396_2;replace hx396_3:=(cell_far (p:=⟨gb395,3,none⟩) (by first|(rw [add_block];exact hn396_3)|(show (Addr.add _ _).block ≠ _;rw [add_block];exact hn396_3)|exact hn396_3) (.string ((rd_T25 t356 (ji68)).f3))).trans hx396_3;replace hx396_0:=(cell_far (p:=⟨gb395,4,none⟩) (by first|(rw [add_block];exact hn396_4)|(show (Addr.add _ _).block ≠ _;rw [add_block];exact hn396_4)|exact hn396_4) (.slice A394_4 ((rd_T25 t356 (ji68)).f4).length c394_4)).trans hx396_0;replace hx396_1:=(cell_far (p:=⟨gb395,4,none⟩) (by first|(rw [add_block];exact hn396_4)|(show (Addr.add _ _).block ≠ _;rw [add_block];exact hn396_4)|exact hn396_4) (.slice A394_4 ((rd_T25 t356 (ji68)).f4).length c394_4)).trans hx396_1;replace hx396_2:=(cell_far (p:=⟨gb395,4,none⟩) (by first|(rw [add_block];exact hn396_4)|(show (Addr.add _ _).block ≠ _;rw [add_block];exact hn396_4)|exact hn396_4) (.slice A394_4 ((rd_T25 t356 (ji68)).f4).length c394_4)).trans hx396_2;replace hx396_3:=(cell_far (p:=⟨gb395,4,none⟩) (by first|(rw [add_block];exact hn396_4)|(show (Addr.add _ _).block ≠ _;rw [add_block];exact hn396_4)|exact hn396_4) (.slice A394_4 ((rd_T25 t356 (ji68)).f4).length c394_4)).trans hx396_3;clear hn396_0;clear hn396_1;clear hn396_2;clear hn396_3;clear hn396_4;replace p396:=eq_true p396;replace q396:=eq_true q396;obtain ⟨Ao82,co82,eo82⟩:=Kd.R_slice HO_25.out;subst eo82)))
                          go_roundg k7
                          case measure => have:=HJ10.out;have:=HJ18.out;have:=HJ36.out;have:=HK4.out;have:=HK5.out;have:=HJ58.out;have:=HK7.out;omega
                          case rel => exact ⟨(wrap64 (x26_7 + 1)),(by first|rfl|(simp;done)|(simp [Go.Proofs.Ytmgiolijjheodaa.Z.bne_nil,Go.Proofs.Ytmgiolijjheodaa.Z.beq_nil];done)|(simp [*];done)),H',⟨by have:=HJ10.out;have:=HJ18.out;have:=HJ36.out;have:=HK4.out;have:=HK5.out;have:=HJ58.out;have:=HK7.out;omega⟩,⟨by (with_reducible repeat (first|apply Kd.S_alloc|apply Kd.S_drewN|apply Kd.S_drew));exact Kd.S_mono (Kd.S_far (p:=⟨gb395,4,none⟩) (Kd.S_far (p:=⟨gb395,3,none⟩) (Kd.S_far (p:=⟨gb395,2,none⟩) (Kd.S_far (p:=⟨gb395,1,none⟩) (Kd.S_far (p:=⟨gb395,0,none⟩) (Kd.S_mono HO_11.out (fun k_ hk => (⟨hk,hk.2⟩ : _ ∧ k_ ≠ gb395))) (fun _ hk => hk.2) (.string ((rd_T25 t356 (ji68)).f0))) (fun _ hk => hk.2) (.int .i64 ((rd_T25 t356 (ji68)).f1))) (fun _ hk => hk.2) (.bool ((rd_T25 t356 (ji68)).f2))) (fun _ hk => hk.2) (.string ((rd_T25 t356 (ji68)).f3))) (fun _ hk => hk.2) (.slice A394_4 ((rd_T25 t356 (ji68)).f4).length c394_4)) (fun _ hk => trivial)⟩,⟨by (with_reducible repeat (first|apply Kd.R_alloc|apply Kd.R_drewN|apply Kd.R_drew));exact Kd.R_mono (Kd.R_far (p:=⟨gb395,4,none⟩) (Kd.R_far (p:=⟨gb395,3,none⟩) (Kd.R_far (p:=⟨gb395,2,none⟩) (Kd.R_far (p:=⟨gb395,1,none⟩) (Kd.R_far (p:=⟨gb395,0,none⟩) (Kd.R_types HO_24.out BK395.out (by decide)) (fun _ hk => hk.2) (.string ((rd_T25 t356 (ji68)).f0))) (fun _ hk => hk.2) (.int .i64 ((rd_T25 t356 (ji68)).f1))) (fun _ hk => hk.2) (.bool ((rd_T25 t356 (ji68)).f2))) (fun _ hk => hk.2) (.string ((rd_T25 t356 (ji68)).f3))) (fun _ hk => hk.2) (.slice A394_4 ((rd_T25 t356 (ji68)).f4).length c394_4)) (fun _ hk => hk.1)⟩,⟨by (with_reducible repeat (first|apply Kd.R_alloc|apply Kd.R_drewN|apply Kd.R_drew));exact Kd.R_mono (Kd.R_far (p:=⟨gb395,4,none⟩) (Kd.R_far (p:=⟨gb395,3,none⟩) (Kd.R_far (p:=⟨gb395,2,none⟩) (Kd.R_far (p:=⟨gb395,1,none⟩) (Kd.R_far (p:=⟨gb395,0,none⟩) (Kd.R_types HO_25.out BK395.out (by decide)) (fun _ hk => hk.2) (.string ((rd_T25 t356 (ji68)).f0))) (fun _ hk => hk.2) (.int .i64 ((rd_T25 t356 (ji68)).f1))) (fun _ hk => hk.2) (.bool ((rd_T25 t356 (ji68)).f2))) (fun _ hk => hk.2) (.string ((rd_T25 t356 (ji68)).f3))) (fun _ hk => hk.2) (.slice A394_4 ((rd_T25 t356 (ji68)).f4).length c394_4)) (fun _ hk => hk.1)⟩,⟨by repeat (first|(with_reducible first|exact HB.out|apply below_alloc|apply pw_below_drewN|apply below_drew1|refine below_set ?_ GE395.out)|exact HB.out)⟩⟩
                       ·rw [if_neg c71] at H
                        exact absurd H (by simp)
                      ·rw [if_neg c70] at H
                       exact absurd H (by simp)
                     ·rw [if_neg c69] at H
                      exact absurd H (by simp)
                    ·rw [if_neg c67] at H
                     have c67b0 : decide (x26_7 < (t388.length : Int)) = false:=decide_eq_false c67
                     clear c67
                     obtain rfl:=Option.some.inj H
                     obtain ⟨Ao83,co83,eo83⟩:=Kd.R_slice HO_24.out
                     subst eo83
                     go_wp2
                     repeat (go_quiet (fail);try go_wp2)
                     go_ret
                     exact ⟨by first|rfl|(simp [errW_none,errW_some] <;> rfl)|(simp [*,errW_none,errW_some] <;> rfl),by repeat (first|(with_reducible first|exact HB.out|apply below_alloc|apply pw_below_drewN|apply below_drew1)|exact HB.out)⟩
 ·replace c7:=Bool.eq_false_iff.mpr c7
  subst c7
  have H1 : (none) = some r:=by rw [if_neg (show ¬ (false = true) by decide)] at H;exact H
  clear H
  have H:=H1
  clear H1
  exact absurd H (by simp)

end Go.Proofs.Ytmgiolijjheodaa.X
