-- By a program of this session (wip/xprint.py over the kit's print).
import Derived.Test.YtbohpjbcjnapfaaX0
import Derived.Test.YtbohpjbcjnapfaaX20
import Derived.Test.YtbohpjbcjnapfaaX35
import Derived.Test.YtbohpjbcjnapfaaX36
import Derived.Test.YtbohpjbcjnapfaaX56
import Derived.Test.YtbohpjbcjnapfaaX57
namespace Go.Proofs.Ytbohpjbcjnapfaa.X
open Go.RowKit Go.Proofs.YtbohpjbcjnapfaaW.PrintWords Go.Proofs.YtbohpjbcjnapfaaW.PrintLast Go.Proofs.YtbohpjbcjnapfaaW.PrintMore
attribute [local go_sem] max2_int min2_int max_two min_two max_three min_three max_four min_four Go.Proofs.Ytbohpjbcjnapfaa.Z.leq_string Go.Proofs.Ytbohpjbcjnapfaa.Z.gtr_string Go.Proofs.Ytbohpjbcjnapfaa.Z.geq_string   -- for this text's walks alone
set_option linter.unusedVariables false
set_option linter.unusedSimpArgs false

/-! ### cofferlaw05_TupleApart: function 9 -/
mutual
def cofferlaw05_TupleApart.j0 : Nat → List (S52) → ByteArray → List (S52) → List (S52) → Bool → Option (Bool)
 | 0,_,_,_,_,_ => none
 | k + 1,x3,x4,x6,x8,x59 => if x59 = true then (none) else (cofferlaw05_TupleApart.l0 k x3 x4 x6 x8 0)
def cofferlaw05_TupleApart.l0 : Nat → List (S52) → ByteArray → List (S52) → List (S52) → Int → Option (Bool)
 | 0,_,_,_,_,_ => none
 | k + 1,x3,x4,x6,x8,x10 => if x10 < (x6.length : Int) then (if 0 ≤ x10 then (cofferlaw05_TupleApart.l0 k x3 x4 (x6.set (x10 : Int).toNat (⟨(-1),(⟨#[]⟩ : ByteArray),0⟩ : S52)) x8 (wrap64 (x10 + 1))) else (none)) else ((cofferlaw05_equal.f k x8 x3).bind fun t385 => (if t385 = true then (cofferlaw05_TupleApart.l1 k x3 x4 x6 x8 0) else (none)))
def cofferlaw05_TupleApart.l1 : Nat → List (S52) → ByteArray → List (S52) → List (S52) → Int → Option (Bool)
 | 0,_,_,_,_,_ => none
 | k + 1,x3,x4,x6,x8,x11 => if x11 < (x8.length : Int) then (if 0 ≤ x11 then (cofferlaw05_TupleApart.l1 k x3 x4 x6 (x8.set (x11 : Int).toNat (⟨(-2),(⟨#[]⟩ : ByteArray),0⟩ : S52)) (wrap64 (x11 + 1))) else (none)) else (if x6.length < 4398046511104 then (if x8.length < 4398046511104 then (cofferlaw05_TupleApart.l2 k x3 x4 (x6 ++ [(⟨(-3),(⟨#[]⟩ : ByteArray),0⟩ : S52)]) (x8 ++ [(⟨(-4),(⟨#[]⟩ : ByteArray),0⟩ : S52)]) 0) else (none)) else (none))
def cofferlaw05_TupleApart.l2 : Nat → List (S52) → ByteArray → List (S52) → List (S52) → Int → Option (Bool)
 | 0,_,_,_,_,_ => none
 | k + 1,x3,x4,x12,x13,x14 => if x14 < 16 then (if x12.length < 4398046511104 then (if x13.length < 4398046511104 then (cofferlaw05_TupleApart.l2 k x3 x4 (x12 ++ [(⟨(-5),(⟨#[]⟩ : ByteArray),0⟩ : S52)]) (x13 ++ [(⟨(-6),(⟨#[]⟩ : ByteArray),0⟩ : S52)]) (wrap64 (x14 + 1))) else (none)) else (none)) else ((tuple_Read.f k x4).bind fun bt399 => (cofferlaw05_TupleApart.l3 k x3 x12 x13 bt399.1 bt399.2 0))
def cofferlaw05_TupleApart.l3 : Nat → List (S52) → List (S52) → List (S52) → List (S52) → Int → Int → Option (Bool)
 | 0,_,_,_,_,_,_ => none
 | k + 1,x3,x12,x13,x15,x16,x17 => if x17 < (x3.length : Int) then (if 0 ≤ x17 then (if x17 < (x12.length : Int) then (if ((rd_T52 x12 x17).f0) = (-1) then (if x17 < (x13.length : Int) then (if ((rd_T52 x13 x17).f0) = (-2) then (cofferlaw05_TupleApart.l3 k x3 x12 x13 x15 x16 (wrap64 (x17 + 1))) else (none)) else (none)) else (none)) else (none)) else (none)) else (cofferlaw05_TupleApart.l4 k x3 x12 x13 x15 x16 1)
def cofferlaw05_TupleApart.l4 : Nat → List (S52) → List (S52) → List (S52) → List (S52) → Int → Int → Option (Bool)
 | 0,_,_,_,_,_,_ => none
 | k + 1,x3,x12,x13,x15,x16,x18 => if x18 < 17 then (if 0 ≤ (wrap64 ((x3.length : Int) + x18)) then (if (wrap64 ((x3.length : Int) + x18)) < (x12.length : Int) then (if ((rd_T52 x12 (wrap64 ((x3.length : Int) + x18))).f0) = (-5) then (if (wrap64 ((x3.length : Int) + x18)) < (x13.length : Int) then (if ((rd_T52 x13 (wrap64 ((x3.length : Int) + x18))).f0) = (-6) then (cofferlaw05_TupleApart.l4 k x3 x12 x13 x15 x16 (wrap64 (x18 + 1))) else (none)) else (none)) else (none)) else (none)) else (none)) else (if 0 ≤ (x3.length : Int) then (if (x3.length : Int) < (x12.length : Int) then (if ((rd_T52 x12 (x3.length : Int)).f0) = (-3) then (if (x3.length : Int) < (x13.length : Int) then (if ((rd_T52 x13 (x3.length : Int)).f0) = (-4) then (if x16 = 0 then ((cofferlaw05_equal.f k x15 x3).bind fun t409 => (some t409)) else (none)) else (none)) else (none)) else (none)) else (none)) else (none))
end
def cofferlaw05_TupleApart.f (k : Nat) (l0 : List (S58)) : Option (Bool):=(cofferlaw05_head.f k).bind fun t368 => (if t368 = true then ((cofferlaw05_parts.f k l0).bind fun t369 => ((tuple_Write.f t369).bind fun bt372 => ((tuple_Read.f k bt372.1).bind fun bt374 => ((tuple_Read.f k bt372.1).bind fun bt378 => (if bt372.2 = 0 then (if bt374.2 = 0 then (if bt378.2 = 0 then ((cofferlaw05_equal.f k bt374.1 t369).bind fun t382 => (if t382 = true then ((cofferlaw05_equal.f k bt378.1 t369).bind fun t383 => (cofferlaw05_TupleApart.j0 k t369 bt372.1 bt374.1 bt378.1 (!t383))) else (cofferlaw05_TupleApart.j0 k t369 bt372.1 bt374.1 bt378.1 true))) else (cofferlaw05_TupleApart.j0 k t369 bt372.1 bt374.1 bt378.1 true)) else (cofferlaw05_TupleApart.j0 k t369 bt372.1 bt374.1 bt378.1 true)) else (cofferlaw05_TupleApart.j0 k t369 bt372.1 bt374.1 bt378.1 true)))))) else (none))
theorem cofferlaw05_TupleApart.mono_l : ∀ k,(∀ y0 y1 y2 y3 y4,LeO (cofferlaw05_TupleApart.j0 k y0 y1 y2 y3 y4) (cofferlaw05_TupleApart.j0 (k + 1) y0 y1 y2 y3 y4)) ∧ (∀ y0 y1 y2 y3 y4,LeO (cofferlaw05_TupleApart.l0 k y0 y1 y2 y3 y4) (cofferlaw05_TupleApart.l0 (k + 1) y0 y1 y2 y3 y4)) ∧ (∀ y0 y1 y2 y3 y4,LeO (cofferlaw05_TupleApart.l1 k y0 y1 y2 y3 y4) (cofferlaw05_TupleApart.l1 (k + 1) y0 y1 y2 y3 y4)) ∧ (∀ y0 y1 y2 y3 y4,LeO (cofferlaw05_TupleApart.l2 k y0 y1 y2 y3 y4) (cofferlaw05_TupleApart.l2 (k + 1) y0 y1 y2 y3 y4)) ∧ (∀ y0 y1 y2 y3 y4 y5,LeO (cofferlaw05_TupleApart.l3 k y0 y1 y2 y3 y4 y5) (cofferlaw05_TupleApart.l3 (k + 1) y0 y1 y2 y3 y4 y5)) ∧ (∀ y0 y1 y2 y3 y4 y5,LeO (cofferlaw05_TupleApart.l4 k y0 y1 y2 y3 y4 y5) (cofferlaw05_TupleApart.l4 (k + 1) y0 y1 y2 y3 y4 y5))
 | 0 => ⟨fun _ _ _ _ _ r h => by simp [cofferlaw05_TupleApart.j0] at h,fun _ _ _ _ _ r h => by simp [cofferlaw05_TupleApart.l0] at h,fun _ _ _ _ _ r h => by simp [cofferlaw05_TupleApart.l1] at h,fun _ _ _ _ _ r h => by simp [cofferlaw05_TupleApart.l2] at h,fun _ _ _ _ _ _ r h => by simp [cofferlaw05_TupleApart.l3] at h,fun _ _ _ _ _ _ r h => by simp [cofferlaw05_TupleApart.l4] at h⟩
 | k + 1 => by
  obtain ⟨ih0,ih1,ih2,ih3,ih4,ih5⟩:=cofferlaw05_TupleApart.mono_l k
  refine ⟨?_,?_,?_,?_,?_,?_⟩
  ·intro y0 y1 y2 y3 y4
   unfold cofferlaw05_TupleApart.j0
   repeat' first
   | (with_reducible exact ih0 _ _ _ _ _)
   | (with_reducible exact ih1 _ _ _ _ _)
   | (with_reducible exact ih2 _ _ _ _ _)
   | (with_reducible exact ih3 _ _ _ _ _)
   | (with_reducible exact ih4 _ _ _ _ _ _)
   | (with_reducible exact ih5 _ _ _ _ _ _)
   | (with_reducible exact cofferlaw05_equal.mono _ _ _)
   | (with_reducible exact cofferlaw05_head.mono _)
   | (with_reducible exact cofferlaw05_parts.mono _ _)
   | (with_reducible exact tuple_Read.mono _ _)
   | (with_reducible exact LeO.refl _)
   | (with_reducible exact LeO.none _)
   | (with_reducible refine LeO.ite ?_ ?_)
   | (with_reducible refine LeO.bind ?_ (fun _ => ?_))
   | exact ih0 _ _ _ _ _
   | exact ih1 _ _ _ _ _
   | exact ih2 _ _ _ _ _
   | exact ih3 _ _ _ _ _
   | exact ih4 _ _ _ _ _ _
   | exact ih5 _ _ _ _ _ _
   | exact cofferlaw05_equal.mono _ _ _
   | exact cofferlaw05_head.mono _
   | exact cofferlaw05_parts.mono _ _
   | exact tuple_Read.mono _ _
   | exact LeO.none _
   | refine LeO.ite ?_ ?_
   | refine LeO.bind ?_ (fun _ => ?_)
  ·intro y0 y1 y2 y3 y4
   unfold cofferlaw05_TupleApart.l0
   repeat' first
   | (with_reducible exact ih0 _ _ _ _ _)
   | (with_reducible exact ih1 _ _ _ _ _)
   | (with_reducible exact ih2 _ _ _ _ _)
   | (with_reducible exact ih3 _ _ _ _ _)
   | (with_reducible exact ih4 _ _ _ _ _ _)
   | (with_reducible exact ih5 _ _ _ _ _ _)
   | (with_reducible exact cofferlaw05_equal.mono _ _ _)
   | (with_reducible exact cofferlaw05_head.mono _)
   | (with_reducible exact cofferlaw05_parts.mono _ _)
   | (with_reducible exact tuple_Read.mono _ _)
   | (with_reducible exact LeO.refl _)
   | (with_reducible exact LeO.none _)
   | (with_reducible refine LeO.ite ?_ ?_)
   | (with_reducible refine LeO.bind ?_ (fun _ => ?_))
   | exact ih0 _ _ _ _ _
   | exact ih1 _ _ _ _ _
   | exact ih2 _ _ _ _ _
   | exact ih3 _ _ _ _ _
   | exact ih4 _ _ _ _ _ _
   | exact ih5 _ _ _ _ _ _
   | exact cofferlaw05_equal.mono _ _ _
   | exact cofferlaw05_head.mono _
   | exact cofferlaw05_parts.mono _ _
   | exact tuple_Read.mono _ _
   | exact LeO.none _
   | refine LeO.ite ?_ ?_
   | refine LeO.bind ?_ (fun _ => ?_)
  ·intro y0 y1 y2 y3 y4
   unfold cofferlaw05_TupleApart.l1
   repeat' first
   | (with_reducible exact ih0 _ _ _ _ _)
   | (with_reducible exact ih1 _ _ _ _ _)
   | (with_reducible exact ih2 _ _ _ _ _)
   | (with_reducible exact ih3 _ _ _ _ _)
   | (with_reducible exact ih4 _ _ _ _ _ _)
   | (with_reducible exact ih5 _ _ _ _ _ _)
   | (with_reducible exact cofferlaw05_equal.mono _ _ _)
   | (with_reducible exact cofferlaw05_head.mono _)
   | (with_reducible exact cofferlaw05_parts.mono _ _)
   | (with_reducible exact tuple_Read.mono _ _)
   | (with_reducible exact LeO.refl _)
   | (with_reducible exact LeO.none _)
   | (with_reducible refine LeO.ite ?_ ?_)
   | (with_reducible refine LeO.bind ?_ (fun _ => ?_))
   | exact ih0 _ _ _ _ _
   | exact ih1 _ _ _ _ _
   | exact ih2 _ _ _ _ _
   | exact ih3 _ _ _ _ _
   | exact ih4 _ _ _ _ _ _
   | exact ih5 _ _ _ _ _ _
   | exact cofferlaw05_equal.mono _ _ _
   | exact cofferlaw05_head.mono _
   | exact cofferlaw05_parts.mono _ _
   | exact tuple_Read.mono _ _
   | exact LeO.none _
   | refine LeO.ite ?_ ?_
   | refine LeO.bind ?_ (fun _ => ?_)
  ·intro y0 y1 y2 y3 y4
   unfold cofferlaw05_TupleApart.l2
   repeat' first
   | (with_reducible exact ih0 _ _ _ _ _)
   | (with_reducible exact ih1 _ _ _ _ _)
   | (with_reducible exact ih2 _ _ _ _ _)
   | (with_reducible exact ih3 _ _ _ _ _)
   | (with_reducible exact ih4 _ _ _ _ _ _)
   | (with_reducible exact ih5 _ _ _ _ _ _)
   | (with_reducible exact cofferlaw05_equal.mono _ _ _)
   | (with_reducible exact cofferlaw05_head.mono _)
   | (with_reducible exact cofferlaw05_parts.mono _ _)
   | (with_reducible exact tuple_Read.mono _ _)
   | (with_reducible exact LeO.refl _)
   | (with_reducible exact LeO.none _)
   | (with_reducible refine LeO.ite ?_ ?_)
   | (with_reducible refine LeO.bind ?_ (fun _ => ?_))
   | exact ih0 _ _ _ _ _
   | exact ih1 _ _ _ _ _
   | exact ih2 _ _ _ _ _
   | exact ih3 _ _ _ _ _
   | exact ih4 _ _ _ _ _ _
   | exact ih5 _ _ _ _ _ _
   | exact cofferlaw05_equal.mono _ _ _
   | exact cofferlaw05_head.mono _
   | exact cofferlaw05_parts.mono _ _
   | exact tuple_Read.mono _ _
   | exact LeO.none _
   | refine LeO.ite ?_ ?_
   | refine LeO.bind ?_ (fun _ => ?_)
  ·intro y0 y1 y2 y3 y4 y5
   unfold cofferlaw05_TupleApart.l3
   repeat' first
   | (with_reducible exact ih0 _ _ _ _ _)
   | (with_reducible exact ih1 _ _ _ _ _)
   | (with_reducible exact ih2 _ _ _ _ _)
   | (with_reducible exact ih3 _ _ _ _ _)
   | (with_reducible exact ih4 _ _ _ _ _ _)
   | (with_reducible exact ih5 _ _ _ _ _ _)
   | (with_reducible exact cofferlaw05_equal.mono _ _ _)
   | (with_reducible exact cofferlaw05_head.mono _)
   | (with_reducible exact cofferlaw05_parts.mono _ _)
   | (with_reducible exact tuple_Read.mono _ _)
   | (with_reducible exact LeO.refl _)
   | (with_reducible exact LeO.none _)
   | (with_reducible refine LeO.ite ?_ ?_)
   | (with_reducible refine LeO.bind ?_ (fun _ => ?_))
   | exact ih0 _ _ _ _ _
   | exact ih1 _ _ _ _ _
   | exact ih2 _ _ _ _ _
   | exact ih3 _ _ _ _ _
   | exact ih4 _ _ _ _ _ _
   | exact ih5 _ _ _ _ _ _
   | exact cofferlaw05_equal.mono _ _ _
   | exact cofferlaw05_head.mono _
   | exact cofferlaw05_parts.mono _ _
   | exact tuple_Read.mono _ _
   | exact LeO.none _
   | refine LeO.ite ?_ ?_
   | refine LeO.bind ?_ (fun _ => ?_)
  ·intro y0 y1 y2 y3 y4 y5
   unfold cofferlaw05_TupleApart.l4
   repeat' first
   | (with_reducible exact ih0 _ _ _ _ _)
   | (with_reducible exact ih1 _ _ _ _ _)
   | (with_reducible exact ih2 _ _ _ _ _)
   | (with_reducible exact ih3 _ _ _ _ _)
   | (with_reducible exact ih4 _ _ _ _ _ _)
   | (with_reducible exact ih5 _ _ _ _ _ _)
   | (with_reducible exact cofferlaw05_equal.mono _ _ _)
   | (with_reducible exact cofferlaw05_head.mono _)
   | (with_reducible exact cofferlaw05_parts.mono _ _)
   | (with_reducible exact tuple_Read.mono _ _)
   | (with_reducible exact LeO.refl _)
   | (with_reducible exact LeO.none _)
   | (with_reducible refine LeO.ite ?_ ?_)
   | (with_reducible refine LeO.bind ?_ (fun _ => ?_))
   | exact ih0 _ _ _ _ _
   | exact ih1 _ _ _ _ _
   | exact ih2 _ _ _ _ _
   | exact ih3 _ _ _ _ _
   | exact ih4 _ _ _ _ _ _
   | exact ih5 _ _ _ _ _ _
   | exact cofferlaw05_equal.mono _ _ _
   | exact cofferlaw05_head.mono _
   | exact cofferlaw05_parts.mono _ _
   | exact tuple_Read.mono _ _
   | exact LeO.none _
   | refine LeO.ite ?_ ?_
   | refine LeO.bind ?_ (fun _ => ?_)
theorem cofferlaw05_TupleApart.mono : ∀ a0 k,LeO (cofferlaw05_TupleApart.f k a0) (cofferlaw05_TupleApart.f (k + 1) a0):=by
 intro a0 k
 obtain ⟨ih0,ih1,ih2,ih3,ih4,ih5⟩:=cofferlaw05_TupleApart.mono_l k
 unfold cofferlaw05_TupleApart.f
 repeat' first
  | (with_reducible exact ih0 _ _ _ _ _)
  | (with_reducible exact ih1 _ _ _ _ _)
  | (with_reducible exact ih2 _ _ _ _ _)
  | (with_reducible exact ih3 _ _ _ _ _)
  | (with_reducible exact ih4 _ _ _ _ _ _)
  | (with_reducible exact ih5 _ _ _ _ _ _)
  | (with_reducible exact cofferlaw05_equal.mono _ _ _)
  | (with_reducible exact cofferlaw05_head.mono _)
  | (with_reducible exact cofferlaw05_parts.mono _ _)
  | (with_reducible exact tuple_Read.mono _ _)
  | (with_reducible exact LeO.refl _)
  | (with_reducible exact LeO.none _)
  | (with_reducible refine LeO.ite ?_ ?_)
  | (with_reducible refine LeO.bind ?_ (fun _ => ?_))
  | exact ih0 _ _ _ _ _
  | exact ih1 _ _ _ _ _
  | exact ih2 _ _ _ _ _
  | exact ih3 _ _ _ _ _
  | exact ih4 _ _ _ _ _ _
  | exact ih5 _ _ _ _ _ _
  | exact cofferlaw05_equal.mono _ _ _
  | exact cofferlaw05_head.mono _
  | exact cofferlaw05_parts.mono _ _
  | exact tuple_Read.mono _ _
  | exact LeO.none _
  | refine LeO.ite ?_ ?_
  | refine LeO.bind ?_ (fun _ => ?_)
set_option maxHeartbeats 8000000 in
set_option maxRecDepth 100000 in
theorem cofferlaw05_TupleApart.calls (k : Nat) (A0 : Option Addr) (c0 : Nat) (l0 : List (S58)) (r : Bool) (w : World) (hr0 : Kd.C k58 w A0 l0.length l0) (hc0 : l0.length ≤ c0) (h : cofferlaw05_TupleApart.f k l0 = some r) :
 Calls Try.prog 9 #[.slice A0 l0.length c0] w fun e w' => e = .returned (.bool r) ∧ Below w.heap.size w w':=by
 have hu52:=Try.underlying52
 have HR0:=Aside0.mk hr0
 have HC0:=Aside0.mk hc0
 clear hr0 hc0
 have HB:=Aside0.mk (Below.refl w.heap.size w)
 have H : ((cofferlaw05_head.f k).bind fun t368 => (if t368 = true then ((cofferlaw05_parts.f k l0).bind fun t369 => ((tuple_Write.f t369).bind fun bt372 => ((tuple_Read.f k bt372.1).bind fun bt374 => ((tuple_Read.f k bt372.1).bind fun bt378 => (if bt372.2 = 0 then (if bt374.2 = 0 then (if bt378.2 = 0 then ((cofferlaw05_equal.f k bt374.1 t369).bind fun t382 => (if t382 = true then ((cofferlaw05_equal.f k bt378.1 t369).bind fun t383 => (cofferlaw05_TupleApart.j0 k t369 bt372.1 bt374.1 bt378.1 (!t383))) else (cofferlaw05_TupleApart.j0 k t369 bt372.1 bt374.1 bt378.1 true))) else (cofferlaw05_TupleApart.j0 k t369 bt372.1 bt374.1 bt378.1 true)) else (cofferlaw05_TupleApart.j0 k t369 bt372.1 bt374.1 bt378.1 true)) else (cofferlaw05_TupleApart.j0 k t369 bt372.1 bt374.1 bt378.1 true)))))) else (none))) = some r:=h
 clear h
 replace H:=Option.bind_eq_some_iff.mp H
 obtain ⟨t368,A20,H⟩:=H
 replace H : (if t368 = true then ((cofferlaw05_parts.f k l0).bind fun t369 => ((tuple_Write.f t369).bind fun bt372 => ((tuple_Read.f k bt372.1).bind fun bt374 => ((tuple_Read.f k bt372.1).bind fun bt378 => (if bt372.2 = 0 then (if bt374.2 = 0 then (if bt378.2 = 0 then ((cofferlaw05_equal.f k bt374.1 t369).bind fun t382 => (if t382 = true then ((cofferlaw05_equal.f k bt378.1 t369).bind fun t383 => (cofferlaw05_TupleApart.j0 k t369 bt372.1 bt374.1 bt378.1 (!t383))) else (cofferlaw05_TupleApart.j0 k t369 bt372.1 bt374.1 bt378.1 true))) else (cofferlaw05_TupleApart.j0 k t369 bt372.1 bt374.1 bt378.1 true)) else (cofferlaw05_TupleApart.j0 k t369 bt372.1 bt374.1 bt378.1 true)) else (cofferlaw05_TupleApart.j0 k t369 bt372.1 bt374.1 bt378.1 true)))))) else (none)) = some r:=H
 have A2:=Aside0.mk A20
 clear A20
 by_cases c3 : t368 = true
 ·subst c3
  have H1 : ((cofferlaw05_parts.f k l0).bind fun t369 => ((tuple_Write.f t369).bind fun bt372 => ((tuple_Read.f k bt372.1).bind fun bt374 => ((tuple_Read.f k bt372.1).bind fun bt378 => (if bt372.2 = 0 then (if bt374.2 = 0 then (if bt378.2 = 0 then ((cofferlaw05_equal.f k bt374.1 t369).bind fun t382 => (if t382 = true then ((cofferlaw05_equal.f k bt378.1 t369).bind fun t383 => (cofferlaw05_TupleApart.j0 k t369 bt372.1 bt374.1 bt378.1 (!t383))) else (cofferlaw05_TupleApart.j0 k t369 bt372.1 bt374.1 bt378.1 true))) else (cofferlaw05_TupleApart.j0 k t369 bt372.1 bt374.1 bt378.1 true)) else (cofferlaw05_TupleApart.j0 k t369 bt372.1 bt374.1 bt378.1 true)) else (cofferlaw05_TupleApart.j0 k t369 bt372.1 bt374.1 bt378.1 true)))))) = some r:=by rw [if_pos rfl] at H;exact H
  clear H
  have H:=H1
  clear H1
  replace H:=Option.bind_eq_some_iff.mp H
  obtain ⟨t369,A40,H⟩:=H
  replace H : ((tuple_Write.f t369).bind fun bt372 => ((tuple_Read.f k bt372.1).bind fun bt374 => ((tuple_Read.f k bt372.1).bind fun bt378 => (if bt372.2 = 0 then (if bt374.2 = 0 then (if bt378.2 = 0 then ((cofferlaw05_equal.f k bt374.1 t369).bind fun t382 => (if t382 = true then ((cofferlaw05_equal.f k bt378.1 t369).bind fun t383 => (cofferlaw05_TupleApart.j0 k t369 bt372.1 bt374.1 bt378.1 (!t383))) else (cofferlaw05_TupleApart.j0 k t369 bt372.1 bt374.1 bt378.1 true))) else (cofferlaw05_TupleApart.j0 k t369 bt372.1 bt374.1 bt378.1 true)) else (cofferlaw05_TupleApart.j0 k t369 bt372.1 bt374.1 bt378.1 true)) else (cofferlaw05_TupleApart.j0 k t369 bt372.1 bt374.1 bt378.1 true))))) = some r:=H
  have A4:=Aside0.mk A40
  clear A40
  replace H:=Option.bind_eq_some_iff.mp H
  obtain ⟨⟨t372,t373⟩,A50,H⟩:=H
  replace H : ((tuple_Read.f k t372).bind fun bt374 => ((tuple_Read.f k t372).bind fun bt378 => (if t373 = 0 then (if bt374.2 = 0 then (if bt378.2 = 0 then ((cofferlaw05_equal.f k bt374.1 t369).bind fun t382 => (if t382 = true then ((cofferlaw05_equal.f k bt378.1 t369).bind fun t383 => (cofferlaw05_TupleApart.j0 k t369 t372 bt374.1 bt378.1 (!t383))) else (cofferlaw05_TupleApart.j0 k t369 t372 bt374.1 bt378.1 true))) else (cofferlaw05_TupleApart.j0 k t369 t372 bt374.1 bt378.1 true)) else (cofferlaw05_TupleApart.j0 k t369 t372 bt374.1 bt378.1 true)) else (cofferlaw05_TupleApart.j0 k t369 t372 bt374.1 bt378.1 true)))) = some r:=H
  have A5:=Aside0.mk A50
  clear A50
  replace H:=Option.bind_eq_some_iff.mp H
  obtain ⟨⟨t374,t375⟩,A60,H⟩:=H
  replace H : ((tuple_Read.f k t372).bind fun bt378 => (if t373 = 0 then (if t375 = 0 then (if bt378.2 = 0 then ((cofferlaw05_equal.f k t374 t369).bind fun t382 => (if t382 = true then ((cofferlaw05_equal.f k bt378.1 t369).bind fun t383 => (cofferlaw05_TupleApart.j0 k t369 t372 t374 bt378.1 (!t383))) else (cofferlaw05_TupleApart.j0 k t369 t372 t374 bt378.1 true))) else (cofferlaw05_TupleApart.j0 k t369 t372 t374 bt378.1 true)) else (cofferlaw05_TupleApart.j0 k t369 t372 t374 bt378.1 true)) else (cofferlaw05_TupleApart.j0 k t369 t372 t374 bt378.1 true))) = some r:=H
  have A6:=Aside0.mk A60
  clear A60
  replace H:=Option.bind_eq_some_iff.mp H
  obtain ⟨⟨t378,t379⟩,A70,H⟩:=H
  replace H : (if t373 = 0 then (if t375 = 0 then (if t379 = 0 then ((cofferlaw05_equal.f k t374 t369).bind fun t382 => (if t382 = true then ((cofferlaw05_equal.f k t378 t369).bind fun t383 => (cofferlaw05_TupleApart.j0 k t369 t372 t374 t378 (!t383))) else (cofferlaw05_TupleApart.j0 k t369 t372 t374 t378 true))) else (cofferlaw05_TupleApart.j0 k t369 t372 t374 t378 true)) else (cofferlaw05_TupleApart.j0 k t369 t372 t374 t378 true)) else (cofferlaw05_TupleApart.j0 k t369 t372 t374 t378 true)) = some r:=H
  have A7:=Aside0.mk A70
  clear A70
  have HC8:=Aside0.mk H
  clear H
  go_enter Try.func9,Try.ntmps9
  go_upto_region 7 with (first|((with_reducible refine gate_callee (f:=10) rfl ?_);refine goesL_ (some 19) rfl rfl Try.func10 (by kernel_rfl) rfl #[] rfl (by (try simp only [List.map_toArray,List.map_cons,List.map_nil]);first|done|rfl|(simp only [List.length_drop,List.length_take];rfl)) ?_;(with_reducible refine (cofferlaw05_head.calls k  true _ A2.out).mono ?_);rintro e w9 ⟨rfl,hb⟩;refine ⟨_,rfl,?_⟩;have n0_:=Aside0.mk (below_step (by repeat (first|(with_reducible first|exact HB.out|apply below_alloc|apply pw_below_drewN|apply below_drew1)|exact HB.out)) hb);clear HB;have HB:=n0_;clear n0_;(try clear hb);(try clear hb2);(try clear hk);(try clear hi))|((with_reducible refine gate_callee (f:=22) rfl ?_);refine goesL_ (some 22) rfl rfl Try.func22 (by kernel_rfl) rfl #[.slice A0 l0.length c0] rfl (by (try simp only [List.map_toArray,List.map_cons,List.map_nil]);first|done|rfl|(simp only [List.length_drop,List.length_take];rfl)) ?_;(with_reducible refine (cofferlaw05_parts.calls k _ _ l0 t369 _ ?side1 ?side2 A4.out).mono ?_);(case side1 => repeat (first|exact (Kd.C_below HR0.out HB.out)|(with_reducible refine Kd.C_alloc ?_ _)|(with_reducible refine Kd.C_drewN ?_ _)|(with_reducible refine Kd.C_drew ?_)));(case side2 => exact HC0.out);rintro e w10 ⟨v370,rfl,ho0,hb⟩;refine ⟨_,rfl,?_⟩;have n0_:=Aside0.mk (Kd.R_lower ho0 (below_size (by repeat (first|(with_reducible first|exact HB.out|apply below_alloc|apply pw_below_drewN|apply below_drew1)|exact HB.out))));have n1_:=Aside0.mk (below_step (by repeat (first|(with_reducible first|exact HB.out|apply below_alloc|apply pw_below_drewN|apply below_drew1)|exact HB.out)) hb);clear HB;have HO371:=n0_;have HB:=n1_;clear n0_ n1_;(try clear hb);(try clear hb2);(try clear hk);(try clear hi);(try clear ho0);obtain ⟨Ao11,co11,eo11⟩:=Kd.R_slice HO371.out;subst eo11)|((with_reducible refine gate_callee (f:=15) rfl ?_);refine goesL_ (some 25) rfl rfl Try.func15 (by kernel_rfl) rfl #[.slice Ao11 t369.length co11] rfl (by (try simp only [List.map_toArray,List.map_cons,List.map_nil]);first|done|rfl|(simp only [List.length_drop,List.length_take];rfl)) ?_;(with_reducible refine (tuple_Write.calls _ _ t369 t372 t373 _ ?side1 ?side2 A5.out).mono ?_);(case side1 => repeat (first|exact (Kd.R_reads' HO371.out).2.2|(with_reducible refine Kd.C_alloc ?_ _)|(with_reducible refine Kd.C_drewN ?_ _)|(with_reducible refine Kd.C_drew ?_)));(case side2 => exact (Kd.R_reads' HO371.out).2.1);rintro e w12 ⟨rfl,hb⟩;refine ⟨_,rfl,?_⟩;have n0_:=Aside0.mk (Kd.R_below (by (with_reducible repeat (first|apply Kd.R_alloc|apply Kd.R_drewN|apply Kd.R_drew));exact HO371.out) hb);have n1_:=Aside0.mk (below_step (by repeat (first|(with_reducible first|exact HB.out|apply below_alloc|apply pw_below_drewN|apply below_drew1)|exact HB.out)) hb);clear HO371;clear HB;have HO371:=n0_;have HB:=n1_;clear n0_ n1_;(try clear hb);(try clear hb2);(try clear hk);(try clear hi))|((with_reducible refine gate_callee (f:=19) rfl ?_);refine goesL_ (some 30) rfl rfl Try.func19 (by kernel_rfl) rfl #[.string t372] rfl (by (try simp only [List.map_toArray,List.map_cons,List.map_nil]);first|done|rfl|(simp only [List.length_drop,List.length_take];rfl)) ?_;(with_reducible refine (tuple_Read.calls k t372 t374 t375 _ A6.out).mono ?_);rintro e w13 ⟨v376,rfl,ho0,hb⟩;refine ⟨_,rfl,?_⟩;have n0_:=Aside0.mk (Kd.R_elder' (by (with_reducible repeat (first|apply Kd.R_alloc|apply Kd.R_drewN|apply Kd.R_drew));exact HO371.out) (Kd.R_base ho0) hb);have n1_:=Aside0.mk (Kd.R_lower (Kd.R_new' ho0 (Kd.R_lt (by (with_reducible repeat (first|apply Kd.R_alloc|apply Kd.R_drewN|apply Kd.R_drew));exact HO371.out))) (below_size (by repeat (first|(with_reducible first|exact HB.out|apply below_alloc|apply pw_below_drewN|apply below_drew1)|exact HB.out))));have n2_:=Aside0.mk (below_step (by repeat (first|(with_reducible first|exact HB.out|apply below_alloc|apply pw_below_drewN|apply below_drew1)|exact HB.out)) hb);clear HO371;clear HB;have HO371:=n0_;have HO377:=n1_;have HB:=n2_;clear n0_ n1_ n2_;(try clear hb);(try clear hb2);(try clear hk);(try clear hi);(try clear ho0))|((with_reducible refine gate_callee (f:=19) rfl ?_);refine goesL_ (some 35) rfl rfl Try.func19 (by kernel_rfl) rfl #[.string t372] rfl (by (try simp only [List.map_toArray,List.map_cons,List.map_nil]);first|done|rfl|(simp only [List.length_drop,List.length_take];rfl)) ?_;(with_reducible refine (tuple_Read.calls k t372 t378 t379 _ A7.out).mono ?_);rintro e w14 ⟨v380,rfl,ho0,hb⟩;refine ⟨_,rfl,?_⟩;have n0_:=Aside0.mk (Kd.R_elder' (by (with_reducible repeat (first|apply Kd.R_alloc|apply Kd.R_drewN|apply Kd.R_drew));exact HO371.out) (Kd.R_base ho0) hb);have n1_:=Aside0.mk (Kd.R_elder' (by (with_reducible repeat (first|apply Kd.R_alloc|apply Kd.R_drewN|apply Kd.R_drew));exact HO377.out) (Kd.R_base ho0) hb);have n2_:=Aside0.mk (Kd.R_lower (Kd.R_new' (Kd.R_new' ho0 (Kd.R_lt (by (with_reducible repeat (first|apply Kd.R_alloc|apply Kd.R_drewN|apply Kd.R_drew));exact HO371.out))) (Kd.R_lt (by (with_reducible repeat (first|apply Kd.R_alloc|apply Kd.R_drewN|apply Kd.R_drew));exact HO377.out))) (below_size (by repeat (first|(with_reducible first|exact HB.out|apply below_alloc|apply pw_below_drewN|apply below_drew1)|exact HB.out))));have n3_:=Aside0.mk (below_step (by repeat (first|(with_reducible first|exact HB.out|apply below_alloc|apply pw_below_drewN|apply below_drew1)|exact HB.out)) hb);clear HO371;clear HO377;clear HB;have HO371:=n0_;have HO377:=n1_;have HO381:=n2_;have HB:=n3_;clear n0_ n1_ n2_ n3_;(try clear hb);(try clear hb2);(try clear hk);(try clear hi);(try clear ho0)))
  (try simp only [Act.put,List.setIfInBounds_toArray,List.set_cons_zero,List.set_cons_succ])
  go_cut [59] (fun v59 wc => ∃ (kq : Nat) (x59_7 : Bool),v59 = .bool x59_7 ∧ Aside0 (cofferlaw05_TupleApart.j0 kq t369 t372 t374 t378 x59_7 = some r) ∧ Aside0 (kq ≤ k) ∧ Aside0 (Kd.R k52 52 wc w.heap.size (fun k_ => some k_ ≠ (v376 : Value).ownBlock ∧ some k_ ≠ (v380 : Value).ownBlock) (.slice Ao11 t369.length co11) t369) ∧ Aside0 (Kd.R k52 52 wc w.heap.size (fun k_ => some k_ ≠ ((.slice Ao11 t369.length co11) : Value).ownBlock ∧ some k_ ≠ (v380 : Value).ownBlock) v376 t374) ∧ Aside0 (Kd.R k52 52 wc w.heap.size (fun k_ => some k_ ≠ ((.slice Ao11 t369.length co11) : Value).ownBlock ∧ some k_ ≠ (v376 : Value).ownBlock) v380 t378) ∧ Aside0 (Below w.heap.size w wc))
  case first =>
   have H:=HC8.out
   clear HC8
   by_cases c15 : t373 = 0
   ·rw [if_pos c15] at H
    have c15b0 : (t373 == 0) = true:=beq_iff_eq.mpr c15
    have c15b1 : (t373 != 0) = false:=bne_eq_false_iff_eq.mpr c15
    clear c15
    (first|rw [c15b0]|(simp only [i64_w,i32_w];rw [c15b0])|rw [c15b1]|skip)
    by_cases c16 : t375 = 0
    ·rw [if_pos c16] at H
     have c16b0 : (t375 == 0) = true:=beq_iff_eq.mpr c16
     have c16b1 : (t375 != 0) = false:=bne_eq_false_iff_eq.mpr c16
     clear c16
     by_cases c17 : t379 = 0
     ·rw [if_pos c17] at H
      have c17b0 : (t379 == 0) = true:=beq_iff_eq.mpr c17
      have c17b1 : (t379 != 0) = false:=bne_eq_false_iff_eq.mpr c17
      clear c17
      replace H:=Option.bind_eq_some_iff.mp H
      obtain ⟨t382,A180,H⟩:=H
      replace H : (if t382 = true then ((cofferlaw05_equal.f k t378 t369).bind fun t383 => (cofferlaw05_TupleApart.j0 k t369 t372 t374 t378 (!t383))) else (cofferlaw05_TupleApart.j0 k t369 t372 t374 t378 true)) = some r:=H
      have A18:=Aside0.mk A180
      clear A180
      by_cases c19 : t382 = true
      ·subst c19
       have H1 : ((cofferlaw05_equal.f k t378 t369).bind fun t383 => (cofferlaw05_TupleApart.j0 k t369 t372 t374 t378 (!t383))) = some r:=by rw [if_pos rfl] at H;exact H
       clear H
       have H:=H1
       clear H1
       replace H:=Option.bind_eq_some_iff.mp H
       obtain ⟨t383,A200,H⟩:=H
       replace H : (cofferlaw05_TupleApart.j0 k t369 t372 t374 t378 (!t383)) = some r:=H
       have A20:=Aside0.mk A200
       clear A200
       have H':=Aside0.mk H
       clear H
       obtain ⟨Ao21,co21,eo21⟩:=Kd.R_slice HO377.out
       subst eo21
       go_wp2_with (first|(go_at_call 25;(with_reducible refine (cofferlaw05_equal.calls k _ _ t374 _ _ t369 true _ ?side1 ?side2 ?side3 ?side4 A18.out).mono ?_);(case side1 => repeat (first|exact (Kd.R_reads' HO377.out).2.2|(with_reducible refine Kd.C_alloc ?_ _)|(with_reducible refine Kd.C_drewN ?_ _)|(with_reducible refine Kd.C_drew ?_)));(case side2 => exact (Kd.R_reads' HO377.out).2.1);(case side3 => repeat (first|exact (Kd.R_reads' HO371.out).2.2|(with_reducible refine Kd.C_alloc ?_ _)|(with_reducible refine Kd.C_drewN ?_ _)|(with_reducible refine Kd.C_drew ?_)));(case side4 => exact (Kd.R_reads' HO371.out).2.1);rintro e w' ⟨rfl,⟨nd,rfl⟩⟩;obtain ⟨Ao22,co22,eo22⟩:=Kd.R_slice HO381.out;subst eo22)|(go_at_call 25;(with_reducible refine (cofferlaw05_equal.calls k _ _ t378 _ _ t369 t383 _ ?side1 ?side2 ?side3 ?side4 A20.out).mono ?_);(case side1 => repeat (first|exact (Kd.R_reads' HO381.out).2.2|(with_reducible refine Kd.C_alloc ?_ _)|(with_reducible refine Kd.C_drewN ?_ _)|(with_reducible refine Kd.C_drew ?_)));(case side2 => exact (Kd.R_reads' HO381.out).2.1);(case side3 => repeat (first|exact (Kd.R_reads' HO371.out).2.2|(with_reducible refine Kd.C_alloc ?_ _)|(with_reducible refine Kd.C_drewN ?_ _)|(with_reducible refine Kd.C_drew ?_)));(case side4 => exact (Kd.R_reads' HO371.out).2.1);rintro e w' ⟨rfl,⟨nd,rfl⟩⟩))
       go_meet
       case rel => exact ⟨_,(!t383),(by first|rfl|(simp;done)|(simp [Go.Proofs.Ytbohpjbcjnapfaa.Z.bne_nil,Go.Proofs.Ytbohpjbcjnapfaa.Z.beq_nil];done)|(simp [*];done)),H',⟨by first|omega|exact Nat.le_refl _⟩,⟨by (with_reducible repeat (first|apply Kd.R_alloc|apply Kd.R_drewN|apply Kd.R_drew));exact Kd.R_mono HO371.out (fun _ hk => ⟨hk.1.2,hk.2⟩)⟩,⟨by (with_reducible repeat (first|apply Kd.R_alloc|apply Kd.R_drewN|apply Kd.R_drew));exact Kd.R_mono HO377.out (fun _ hk => ⟨hk.1.2,hk.2⟩)⟩,⟨by (with_reducible repeat (first|apply Kd.R_alloc|apply Kd.R_drewN|apply Kd.R_drew));exact Kd.R_mono HO381.out (fun _ hk => ⟨hk.1.2,hk.2⟩)⟩,⟨by repeat (first|(with_reducible first|exact HB.out|apply below_alloc|apply pw_below_drewN|apply below_drew1)|exact HB.out)⟩⟩
      ·replace c19:=Bool.eq_false_iff.mpr c19
       subst c19
       have H1 : (cofferlaw05_TupleApart.j0 k t369 t372 t374 t378 true) = some r:=by rw [if_neg (show ¬ (false = true) by decide)] at H;exact H
       clear H
       have H:=H1
       clear H1
       have H':=Aside0.mk H
       clear H
       obtain ⟨Ao23,co23,eo23⟩:=Kd.R_slice HO377.out
       subst eo23
       go_wp2_with (first|(go_at_call 25;(with_reducible refine (cofferlaw05_equal.calls k _ _ t374 _ _ t369 false _ ?side1 ?side2 ?side3 ?side4 A18.out).mono ?_);(case side1 => repeat (first|exact (Kd.R_reads' HO377.out).2.2|(with_reducible refine Kd.C_alloc ?_ _)|(with_reducible refine Kd.C_drewN ?_ _)|(with_reducible refine Kd.C_drew ?_)));(case side2 => exact (Kd.R_reads' HO377.out).2.1);(case side3 => repeat (first|exact (Kd.R_reads' HO371.out).2.2|(with_reducible refine Kd.C_alloc ?_ _)|(with_reducible refine Kd.C_drewN ?_ _)|(with_reducible refine Kd.C_drew ?_)));(case side4 => exact (Kd.R_reads' HO371.out).2.1);rintro e w' ⟨rfl,⟨nd,rfl⟩⟩))
       go_meet
       case rel => exact ⟨_,(true),(by first|rfl|(simp;done)|(simp [Go.Proofs.Ytbohpjbcjnapfaa.Z.bne_nil,Go.Proofs.Ytbohpjbcjnapfaa.Z.beq_nil];done)|(simp [*];done)),H',⟨by first|omega|exact Nat.le_refl _⟩,⟨by (with_reducible repeat (first|apply Kd.R_alloc|apply Kd.R_drewN|apply Kd.R_drew));exact Kd.R_mono HO371.out (fun _ hk => ⟨hk.1.2,hk.2⟩)⟩,⟨by (with_reducible repeat (first|apply Kd.R_alloc|apply Kd.R_drewN|apply Kd.R_drew));exact Kd.R_mono HO377.out (fun _ hk => ⟨hk.1.2,hk.2⟩)⟩,⟨by (with_reducible repeat (first|apply Kd.R_alloc|apply Kd.R_drewN|apply Kd.R_drew));exact Kd.R_mono HO381.out (fun _ hk => ⟨hk.1.2,hk.2⟩)⟩,⟨by repeat (first|(with_reducible first|exact HB.out|apply below_alloc|apply pw_below_drewN|apply below_drew1)|exact HB.out)⟩⟩
     ·rw [if_neg c17] at H
      have c17b0 : (t379 == 0) = false:=beq_eq_false_iff_ne.mpr c17
      have c17b1 : (t379 != 0) = true:=bne_iff_ne.mpr c17
      have H':=Aside0.mk H
      clear H
      go_wp2
      go_meet
      case rel => exact ⟨_,(true),(by first|rfl|(simp;done)|(simp [Go.Proofs.Ytbohpjbcjnapfaa.Z.bne_nil,Go.Proofs.Ytbohpjbcjnapfaa.Z.beq_nil];done)|(simp [*];done)),H',⟨by first|omega|exact Nat.le_refl _⟩,⟨by (with_reducible repeat (first|apply Kd.R_alloc|apply Kd.R_drewN|apply Kd.R_drew));exact Kd.R_mono HO371.out (fun _ hk => ⟨hk.1.2,hk.2⟩)⟩,⟨by (with_reducible repeat (first|apply Kd.R_alloc|apply Kd.R_drewN|apply Kd.R_drew));exact Kd.R_mono HO377.out (fun _ hk => ⟨hk.1.2,hk.2⟩)⟩,⟨by (with_reducible repeat (first|apply Kd.R_alloc|apply Kd.R_drewN|apply Kd.R_drew));exact Kd.R_mono HO381.out (fun _ hk => ⟨hk.1.2,hk.2⟩)⟩,⟨by repeat (first|(with_reducible first|exact HB.out|apply below_alloc|apply pw_below_drewN|apply below_drew1)|exact HB.out)⟩⟩
    ·rw [if_neg c16] at H
     have c16b0 : (t375 == 0) = false:=beq_eq_false_iff_ne.mpr c16
     have c16b1 : (t375 != 0) = true:=bne_iff_ne.mpr c16
     have H':=Aside0.mk H
     clear H
     go_wp2
     go_meet
     case rel => exact ⟨_,(true),(by first|rfl|(simp;done)|(simp [Go.Proofs.Ytbohpjbcjnapfaa.Z.bne_nil,Go.Proofs.Ytbohpjbcjnapfaa.Z.beq_nil];done)|(simp [*];done)),H',⟨by first|omega|exact Nat.le_refl _⟩,⟨by (with_reducible repeat (first|apply Kd.R_alloc|apply Kd.R_drewN|apply Kd.R_drew));exact Kd.R_mono HO371.out (fun _ hk => ⟨hk.1.2,hk.2⟩)⟩,⟨by (with_reducible repeat (first|apply Kd.R_alloc|apply Kd.R_drewN|apply Kd.R_drew));exact Kd.R_mono HO377.out (fun _ hk => ⟨hk.1.2,hk.2⟩)⟩,⟨by (with_reducible repeat (first|apply Kd.R_alloc|apply Kd.R_drewN|apply Kd.R_drew));exact Kd.R_mono HO381.out (fun _ hk => ⟨hk.1.2,hk.2⟩)⟩,⟨by repeat (first|(with_reducible first|exact HB.out|apply below_alloc|apply pw_below_drewN|apply below_drew1)|exact HB.out)⟩⟩
   ·rw [if_neg c15] at H
    have c15b0 : (t373 == 0) = false:=beq_eq_false_iff_ne.mpr c15
    have c15b1 : (t373 != 0) = true:=bne_iff_ne.mpr c15
    (first|rw [c15b0]|(simp only [i64_w,i32_w];rw [c15b0])|rw [c15b1]|skip)
    have H':=Aside0.mk H
    clear H
    go_wp2
    go_meet
    case rel => exact ⟨_,(true),(by first|rfl|(simp;done)|(simp [Go.Proofs.Ytbohpjbcjnapfaa.Z.bne_nil,Go.Proofs.Ytbohpjbcjnapfaa.Z.beq_nil];done)|(simp [*];done)),H',⟨by first|omega|exact Nat.le_refl _⟩,⟨by (with_reducible repeat (first|apply Kd.R_alloc|apply Kd.R_drewN|apply Kd.R_drew));exact Kd.R_mono HO371.out (fun _ hk => ⟨hk.1.2,hk.2⟩)⟩,⟨by (with_reducible repeat (first|apply Kd.R_alloc|apply Kd.R_drewN|apply Kd.R_drew));exact Kd.R_mono HO377.out (fun _ hk => ⟨hk.1.2,hk.2⟩)⟩,⟨by (with_reducible repeat (first|apply Kd.R_alloc|apply Kd.R_drewN|apply Kd.R_drew));exact Kd.R_mono HO381.out (fun _ hk => ⟨hk.1.2,hk.2⟩)⟩,⟨by repeat (first|(with_reducible first|exact HB.out|apply below_alloc|apply pw_below_drewN|apply below_drew1)|exact HB.out)⟩⟩
  case rest =>
   clear HC8
   try clear c1
   try clear c2
   try clear p2
   try clear c3
   try clear c9
   try clear c10
   try clear c15
   try clear c15b0
   try clear c15b1
   try clear c16
   try clear c16b0
   try clear c16b1
   try clear c17
   try clear c17b0
   try clear c17b1
   try clear c19
   try clear c22
   obtain ⟨kq,x59_7,rfl,HA,HJ7,HO_3,HO_6,HO_8,HB⟩:=hcut
   cases kq with
   | zero => exact absurd HA.out (by simp [cofferlaw05_TupleApart.j0])
   | succ kj7 =>
    have H:=HA.out
    clear HA
    simp only [cofferlaw05_TupleApart.j0] at H
    by_cases c24 : x59_7 = true
    ·subst c24
     have H1 : (none) = some r:=by rw [if_pos rfl] at H;exact H
     clear H
     have H:=H1
     clear H1
     exact absurd H (by simp)
    ·replace c24:=Bool.eq_false_iff.mpr c24
     subst c24
     have H1 : (cofferlaw05_TupleApart.l0 kj7 t369 t372 t374 t378 0) = some r:=by rw [if_neg (show ¬ (false = true) by decide)] at H;exact H
     clear H
     have H:=H1
     clear H1
     have H':=Aside0.mk H
     clear H
     go_wp2
     go_loopg [10] kj7 (fun kq v10 w' => ∃ (x6_2 : List (S52)) (x10_2 : Int),v10 = .int .i64 x10_2 ∧ Aside0 (cofferlaw05_TupleApart.l0 kq t369 t372 x6_2 t378 x10_2 = some r) ∧ Aside0 (kq ≤ kj7) ∧ Aside0 (Kd.R k52 52 w' w.heap.size (fun k_ => some k_ ≠ (v376 : Value).ownBlock ∧ some k_ ≠ (v380 : Value).ownBlock) (.slice Ao11 t369.length co11) t369) ∧ Aside0 (Kd.R k52 52 w' w.heap.size (fun k_ => some k_ ≠ ((.slice Ao11 t369.length co11) : Value).ownBlock ∧ some k_ ≠ (v380 : Value).ownBlock) v376 x6_2) ∧ Aside0 (Kd.R k52 52 w' w.heap.size (fun k_ => some k_ ≠ ((.slice Ao11 t369.length co11) : Value).ownBlock ∧ some k_ ≠ (v376 : Value).ownBlock) v380 t378) ∧ Aside0 (Below w.heap.size w w'))
     case atStart => exact ⟨(t374),(0),(by first|rfl|(simp;done)|(simp [Go.Proofs.Ytbohpjbcjnapfaa.Z.bne_nil,Go.Proofs.Ytbohpjbcjnapfaa.Z.beq_nil];done)|(simp [*];done)),H',⟨Nat.le_refl _⟩,⟨by (with_reducible repeat (first|apply Kd.R_alloc|apply Kd.R_drewN|apply Kd.R_drew));exact HO_3.out⟩,⟨by (with_reducible repeat (first|apply Kd.R_alloc|apply Kd.R_drewN|apply Kd.R_drew));exact HO_6.out⟩,⟨by (with_reducible repeat (first|apply Kd.R_alloc|apply Kd.R_drewN|apply Kd.R_drew));exact HO_8.out⟩,⟨by repeat (first|(with_reducible first|exact HB.out|apply below_alloc|apply pw_below_drewN|apply below_drew1)|exact HB.out)⟩⟩
     case round =>
      clear H'
      try clear c1
      try clear c2
      try clear p2
      try clear c3
      try clear c9
      try clear c10
      try clear c15
      try clear c15b0
      try clear c15b1
      try clear c16
      try clear c16b0
      try clear c16b1
      try clear c17
      try clear c17b0
      try clear c17b1
      try clear c19
      try clear c22
      try clear c24
      try clear p2
      obtain ⟨x6_2,x10_2,rfl,HA,HK2,HO_3,HO_6,HO_8,HB⟩:=hrel
      cases gk with
      | zero => exact absurd HA.out (by simp [cofferlaw05_TupleApart.l0])
      | succ k2 =>
       have H:=HA.out
       clear HA
       simp only [cofferlaw05_TupleApart.l0] at H
       by_cases c25 : x10_2 < (x6_2.length : Int)
       ·rw [if_pos c25] at H
        have c25b0 : decide (x10_2 < (x6_2.length : Int)) = true:=decide_eq_true c25
        clear c25
        by_cases c26 : 0 ≤ x10_2
        ·rw [if_pos c26] at H
         have c26b0 : decide (0 ≤ x10_2) = true:=decide_eq_true c26
         clear c26
         obtain ⟨y384,hy384⟩ : ∃ y_ : List (S52),y_ = (x6_2.set (x10_2 : Int).toNat (⟨(-1),(⟨#[]⟩ : ByteArray),0⟩ : S52)):=⟨_,rfl⟩
         replace H : (cofferlaw05_TupleApart.l0 k2 t369 t372 y384 t378 (wrap64 (x10_2 + 1))) = some r:=by first|(rw [hy384];with_reducible exact H)|(have H2_:=(Option.bind_some _ _).symm.trans H;rw [hy384];with_reducible exact H2_)|(have H2_:=(Option.bind_some _ _).symm.trans H;with_reducible exact H2_)|with_reducible exact H|(rw [hy384];exact H)|exact H
         have Ny384:=Aside0.mk hy384
         clear hy384
         have H':=Aside0.mk H
         clear H
         obtain ⟨Ao28,co28,eo28⟩:=Kd.R_slice HO_6.out
         subst eo28
         have p27 : 0 ≤ (x10_2 : Int):=of_decide_eq_true (by first|(with_reducible assumption)|assumption)
         have q27 : (x10_2 : Int) < ((x6_2.length : Int) : Int):=of_decide_eq_true (by first|(with_reducible assumption)|assumption)
         obtain ⟨go27,co27,eo27,gb27,gl27,cl27,HG27⟩:=Kd.R_form HO_6.out (by omega)
         (first|cases eo27|(injection eo27 with ea_ en_ ec_;(first|subst ea_|(injection ea_ with ea_;subst ea_));subst ec_;clear en_))
         have GB27:=Aside0.mk gb27
         have GG27:=Aside0.mk HG27
         clear gb27 gl27 HG27
         obtain ⟨ce27,hcl27,hM27,hcc27,hfr27⟩:=Kd.R_elem HO_6.out z52 (x10_2 : Int) p27 q27
         obtain rfl:=k52_openM hM27
         have hx27_0 : wr.cell? ⟨go27,(x10_2 : Int).toNat * 3,none⟩ = some (.int .i64 ((rd_T52 x6_2 x10_2).f0)):=hcc27 0 _ rfl
         have hx27_1 : wr.cell? ⟨go27,(x10_2 : Int).toNat * 3 + 1,none⟩ = some (.string ((rd_T52 x6_2 x10_2).f1)):=hcc27 1 _ rfl
         have hx27_2 : wr.cell? ⟨go27,(x10_2 : Int).toNat * 3 + 2,none⟩ = some (.int .i64 ((rd_T52 x6_2 x10_2).f2)):=hcc27 2 _ rfl
         have hf27_0 : wr.frozen? ⟨go27,(x10_2 : Int).toNat * 3,none⟩ = false:=hfr27 0
         have hf27_1 : wr.frozen? ⟨go27,(x10_2 : Int).toNat * 3 + 1,none⟩ = false:=hfr27 1
         have hf27_2 : wr.frozen? ⟨go27,(x10_2 : Int).toNat * 3 + 2,none⟩ = false:=hfr27 2
         clear hcl27 hcc27 hfr27 hM27
         replace p27:=eq_true p27
         replace q27:=eq_true q27
         have HX29:=Aside0.mk (show Kd.R k52 52 wr w.heap.size (fun k_ => some k_ ≠ (.slice Ao11 t369.length co11 : Value).ownBlock ∧ some k_ ≠ (v380 : Value).ownBlock) (.slice (some ⟨go27,0,none⟩) x6_2.length co28) x6_2 from (by (with_reducible repeat (first|apply Kd.R_alloc|apply Kd.R_drewN|apply Kd.R_drew));exact HO_6.out))
         obtain ⟨ce29,hcl29,hM29,hcc29,hfr29⟩:=Kd.R_elem HX29.out z52 (x10_2 : Int) (of_decide_eq_true (by first|(with_reducible assumption)|assumption)) (by have h_ : (x10_2 : Int) < ((x6_2.length : Int) : Int):=of_decide_eq_true (by first|(with_reducible assumption)|assumption);first|exact h_|(have e_:=(Kd.R_reads' HO_6.out).1;omega)|simpa using h_)
         obtain rfl:=k52_openM hM29
         have HP29:=Kd.R_seg HX29.out (x10_2 : Int) (of_decide_eq_true (by first|(with_reducible assumption)|assumption)) (by have h_ : (x10_2 : Int) < ((x6_2.length : Int) : Int):=of_decide_eq_true (by first|(with_reducible assumption)|assumption);first|exact h_|(have e_:=(Kd.R_reads' HO_6.out).1;omega)|simpa using h_) (seg:=[.int .i64 (-1),.string (⟨#[]⟩ : ByteArray),.int .i64 0]) (j:=0) hcl29 hcc29 (show 3 ≤ 3 from by decide) (x':=(⟨(-1),(⟨#[]⟩ : ByteArray),0⟩ : S52)) (k52_mkM _ _ _ (⟨(-1),(⟨#[]⟩ : ByteArray),0⟩ : S52) ) (fun _ hk => hk)
         have hx29_0:=hcc29 0 _ rfl
         (try simp only [show (k52).sz = 3 from rfl,Nat.mul_one,Nat.add_zero] at hx29_0)
         have hf29_0:=hfr29 0
         (try simp only [show (k52).sz = 3 from rfl,Nat.mul_one,Nat.add_zero] at hf29_0)
         have hx29_1:=hcc29 1 _ rfl
         (try simp only [show (k52).sz = 3 from rfl,Nat.mul_one,Nat.add_zero] at hx29_1)
         have hf29_1:=hfr29 1
         (try simp only [show (k52).sz = 3 from rfl,Nat.mul_one,Nat.add_zero] at hf29_1)
         have hx29_2:=hcc29 2 _ rfl
         (try simp only [show (k52).sz = 3 from rfl,Nat.mul_one,Nat.add_zero] at hx29_2)
         have hf29_2:=hfr29 2
         (try simp only [show (k52).sz = 3 from rfl,Nat.mul_one,Nat.add_zero] at hf29_2)
         clear hcl29 hcc29 hfr29 hM29
         go_wp2_with (first|((with_reducible refine gate_store (t:=52) (p:=69) rfl ?_);refine store_event (t:=52) (p:=69) (v:=?vo_w30) (w1:=(((wr.setCell ⟨go27,(x10_2 : Int).toNat * 3,none⟩ (.int .i64 (-1))).setCell ⟨go27,(x10_2 : Int).toNat * 3 + 1,none⟩ (.string (⟨#[]⟩ : ByteArray))).setCell ⟨go27,(x10_2 : Int).toNat * 3 + 2,none⟩ (.int .i64 0))) ?hg ?ho ?hn ?hr ?_;(case ho => rfl);(case hg => rfl);(case hn => rfl);(case hr => first|(go_simp;done)|(go_simp;rfl));intro w30 hw;have hg : wr.grownBy w30 (some go27):=(by rw [hw];exact HP29.2);have hp_ : Kd.R k52 52 w30 w.heap.size (fun k_ => some k_ ≠ (.slice Ao11 t369.length co11 : Value).ownBlock ∧ some k_ ≠ (v380 : Value).ownBlock) (.slice (some ⟨go27,0,none⟩) x6_2.length co28) y384:=(by rw [hw,Ny384.out];exact HP29.1);clear HP29;have n0_:=Aside0.mk (Kd.R_after (v:=(.slice (some ⟨go27,0,none⟩) x6_2.length co28)) (v1:=(.slice (some ⟨go27,0,none⟩) x6_2.length co28)) (ok:=(fun k_ => some k_ ≠ (v380 : Value).ownBlock)) (by (with_reducible repeat (first|apply Kd.R_alloc|apply Kd.R_drewN|apply Kd.R_drew));exact Kd.R_mono HO_3.out (fun _ hk => ⟨hk.2,hk.1⟩)) hg (.inl rfl));have n1_:=Aside0.mk (hp_);have n2_:=Aside0.mk (Kd.R_after (v:=(.slice (some ⟨go27,0,none⟩) x6_2.length co28)) (v1:=(.slice (some ⟨go27,0,none⟩) x6_2.length co28)) (ok:=(fun k_ => some k_ ≠ (.slice Ao11 t369.length co11 : Value).ownBlock)) (by (with_reducible repeat (first|apply Kd.R_alloc|apply Kd.R_drewN|apply Kd.R_drew));exact HO_8.out) hg (.inl rfl));have n3_:=Aside0.mk ((by rw [hw];exact below_set (below_set (below_set (HB.out) GB27.out) GB27.out) GB27.out : Below w.heap.size w w30));clear HO_3;clear HO_6;clear HO_8;clear HB;have HO_3:=n0_;have HO_6:=n1_;have HO_8:=n2_;have HB:=n3_;clear n0_ n1_ n2_ n3_;clear hg hw hp_))
         go_roundg k2
         case measure => have:=HJ7.out;have:=HK2.out;omega
         case rel => exact ⟨(y384),(wrap64 (x10_2 + 1)),(by first|rfl|(simp;done)|(simp [Go.Proofs.Ytbohpjbcjnapfaa.Z.bne_nil,Go.Proofs.Ytbohpjbcjnapfaa.Z.beq_nil];done)|(simp [*];done)),H',⟨by have:=HJ7.out;have:=HK2.out;omega⟩,⟨by (with_reducible repeat (first|apply Kd.R_alloc|apply Kd.R_drewN|apply Kd.R_drew));exact Kd.R_mono HO_3.out (fun _ hk => ⟨hk.2,hk.1⟩)⟩,⟨by (with_reducible repeat (first|apply Kd.R_alloc|apply Kd.R_drewN|apply Kd.R_drew));exact HO_6.out⟩,⟨by (with_reducible repeat (first|apply Kd.R_alloc|apply Kd.R_drewN|apply Kd.R_drew));exact HO_8.out⟩,⟨by repeat (first|(with_reducible first|exact HB.out|apply below_alloc|apply pw_below_drewN|apply below_drew1)|exact HB.out)⟩⟩
        ·rw [if_neg c26] at H
         exact absurd H (by simp)
       ·rw [if_neg c25] at H
        have c25b0 : decide (x10_2 < (x6_2.length : Int)) = false:=decide_eq_false c25
        clear c25
        replace H:=Option.bind_eq_some_iff.mp H
        obtain ⟨t385,A310,H⟩:=H
        replace H : (if t385 = true then (cofferlaw05_TupleApart.l1 k2 t369 t372 x6_2 t378 0) else (none)) = some r:=H
        have A31:=Aside0.mk A310
        clear A310
        by_cases c32 : t385 = true
        ·subst c32
         have H1 : (cofferlaw05_TupleApart.l1 k2 t369 t372 x6_2 t378 0) = some r:=by rw [if_pos rfl] at H;exact H
         clear H
         have H:=H1
         clear H1
         have H':=Aside0.mk H
         clear H
         obtain ⟨Ao33,co33,eo33⟩:=Kd.R_slice HO_6.out
         subst eo33
         obtain ⟨Ao34,co34,eo34⟩:=Kd.R_slice HO_8.out
         subst eo34
         go_wp2_with (first|((with_reducible refine gate_callee (f:=25) rfl ?_);refine goesL_ (some 72) rfl rfl Try.func25 (by kernel_rfl) rfl #[.slice Ao34 t378.length co34,.slice Ao11 t369.length co11] rfl (by (try simp only [List.map_toArray,List.map_cons,List.map_nil]);first|done|rfl|(simp only [List.length_drop,List.length_take];rfl)) ?_;(with_reducible refine (cofferlaw05_equal.calls k2 _ _ t378 _ _ t369 true _ ?side1 ?side2 ?side3 ?side4 A31.out).mono ?_);(case side1 => repeat (first|exact (Kd.R_reads' HO_8.out).2.2|(with_reducible refine Kd.C_alloc ?_ _)|(with_reducible refine Kd.C_drewN ?_ _)|(with_reducible refine Kd.C_drew ?_)));(case side2 => exact (Kd.R_reads' HO_8.out).2.1);(case side3 => repeat (first|exact (Kd.R_reads' HO_3.out).2.2|(with_reducible refine Kd.C_alloc ?_ _)|(with_reducible refine Kd.C_drewN ?_ _)|(with_reducible refine Kd.C_drew ?_)));(case side4 => exact (Kd.R_reads' HO_3.out).2.1);rintro e w' ⟨rfl,⟨nd,rfl⟩⟩;refine ⟨_,rfl,?_⟩))
         go_loopg [11] k2 (fun kq v11 w' => ∃ (x8_3 : List (S52)) (x11_3 : Int),v11 = .int .i64 x11_3 ∧ Aside0 (cofferlaw05_TupleApart.l1 kq t369 t372 x6_2 x8_3 x11_3 = some r) ∧ Aside0 (kq ≤ k2) ∧ Aside0 (Kd.R k52 52 w' w.heap.size (fun k_ => some k_ ≠ ((.slice Ao33 x6_2.length co33) : Value).ownBlock ∧ some k_ ≠ ((.slice Ao34 t378.length co34) : Value).ownBlock) (.slice Ao11 t369.length co11) t369) ∧ Aside0 (Kd.R k52 52 w' w.heap.size (fun k_ => some k_ ≠ ((.slice Ao11 t369.length co11) : Value).ownBlock ∧ some k_ ≠ ((.slice Ao34 t378.length co34) : Value).ownBlock) (.slice Ao33 x6_2.length co33) x6_2) ∧ Aside0 (Kd.R k52 52 w' w.heap.size (fun k_ => some k_ ≠ ((.slice Ao11 t369.length co11) : Value).ownBlock ∧ some k_ ≠ ((.slice Ao33 x6_2.length co33) : Value).ownBlock) (.slice Ao34 t378.length co34) x8_3) ∧ Aside0 (Below w.heap.size w w'))
         case atStart => exact ⟨(t378),(0),(by first|rfl|(simp;done)|(simp [Go.Proofs.Ytbohpjbcjnapfaa.Z.bne_nil,Go.Proofs.Ytbohpjbcjnapfaa.Z.beq_nil];done)|(simp [*];done)),H',⟨Nat.le_refl _⟩,⟨by (with_reducible repeat (first|apply Kd.R_alloc|apply Kd.R_drewN|apply Kd.R_drew));exact HO_3.out⟩,⟨by (with_reducible repeat (first|apply Kd.R_alloc|apply Kd.R_drewN|apply Kd.R_drew));exact HO_6.out⟩,⟨by (with_reducible repeat (first|apply Kd.R_alloc|apply Kd.R_drewN|apply Kd.R_drew));exact HO_8.out⟩,⟨by repeat (first|(with_reducible first|exact HB.out|apply below_alloc|apply pw_below_drewN|apply below_drew1)|exact HB.out)⟩⟩
         case round =>
          clear H'
          try clear c1
          try clear c2
          try clear p2
          try clear q2
          try clear hx2
          try clear hf2
          try clear c3
          try clear p6
          try clear c9
          try clear c10
          try clear c15
          try clear c15b0
          try clear c15b1
          try clear c16
          try clear c16b0
          try clear c16b1
          try clear c17
          try clear c17b0
          try clear c17b1
          try clear c19
          try clear c22
          try clear c24
          try clear c25
          try clear c25b0
          try clear c26
          try clear c26b0
          try clear c27
          try clear p27
          try clear q27
          try clear hx27
          try clear hf27
          try clear c29
          try clear hx29
          try clear hf29
          try clear c32
          try clear hx27_0
          try clear hx27_1
          try clear hx27_2
          try clear hx29_0
          try clear hx29_1
          try clear hx29_2
          try clear p2
          try clear p27
          try clear q27
          obtain ⟨x8_3,x11_3,rfl,HA,HK3,HO_3,HO_6,HO_8,HB⟩:=hrel
          have hl8_3:=(Kd.R_reads' HO_8.out).1
          rw [hl8_3] at HO_8
          (try simp only [hl8_3])
          (try simp only [hl8_3] at HO_3)
          (try simp only [hl8_3] at HO_6)
          cases gk with
          | zero => exact absurd HA.out (by simp [cofferlaw05_TupleApart.l1])
          | succ k3 =>
           have H:=HA.out
           clear HA
           simp only [cofferlaw05_TupleApart.l1] at H
           by_cases c35 : x11_3 < (x8_3.length : Int)
           ·rw [if_pos c35] at H
            have c35b0 : decide (x11_3 < (x8_3.length : Int)) = true:=decide_eq_true c35
            clear c35
            by_cases c36 : 0 ≤ x11_3
            ·rw [if_pos c36] at H
             have c36b0 : decide (0 ≤ x11_3) = true:=decide_eq_true c36
             clear c36
             obtain ⟨y386,hy386⟩ : ∃ y_ : List (S52),y_ = (x8_3.set (x11_3 : Int).toNat (⟨(-2),(⟨#[]⟩ : ByteArray),0⟩ : S52)):=⟨_,rfl⟩
             replace H : (cofferlaw05_TupleApart.l1 k3 t369 t372 x6_2 y386 (wrap64 (x11_3 + 1))) = some r:=by first|(rw [hy386];with_reducible exact H)|(have H2_:=(Option.bind_some _ _).symm.trans H;rw [hy386];with_reducible exact H2_)|(have H2_:=(Option.bind_some _ _).symm.trans H;with_reducible exact H2_)|with_reducible exact H|(rw [hy386];exact H)|exact H
             have Ny386:=Aside0.mk hy386
             clear hy386
             have H':=Aside0.mk H
             clear H
             have p37 : 0 ≤ (x11_3 : Int):=of_decide_eq_true (by first|(with_reducible assumption)|assumption)
             have q37 : (x11_3 : Int) < ((x8_3.length : Int) : Int):=of_decide_eq_true (by first|(with_reducible assumption)|assumption)
             obtain ⟨go37,co37,eo37,gb37,gl37,cl37,HG37⟩:=Kd.R_form HO_8.out (by omega)
             (first|cases eo37|(injection eo37 with ea_ en_ ec_;(first|subst ea_|(injection ea_ with ea_;subst ea_));subst ec_;clear en_))
             have GB37:=Aside0.mk gb37
             have GG37:=Aside0.mk HG37
             clear gb37 gl37 HG37
             obtain ⟨ce37,hcl37,hM37,hcc37,hfr37⟩:=Kd.R_elem HO_8.out z52 (x11_3 : Int) p37 q37
             obtain rfl:=k52_openM hM37
             have hx37_0 : wr.cell? ⟨go37,(x11_3 : Int).toNat * 3,none⟩ = some (.int .i64 ((rd_T52 x8_3 x11_3).f0)):=hcc37 0 _ rfl
             have hx37_1 : wr.cell? ⟨go37,(x11_3 : Int).toNat * 3 + 1,none⟩ = some (.string ((rd_T52 x8_3 x11_3).f1)):=hcc37 1 _ rfl
             have hx37_2 : wr.cell? ⟨go37,(x11_3 : Int).toNat * 3 + 2,none⟩ = some (.int .i64 ((rd_T52 x8_3 x11_3).f2)):=hcc37 2 _ rfl
             have hf37_0 : wr.frozen? ⟨go37,(x11_3 : Int).toNat * 3,none⟩ = false:=hfr37 0
             have hf37_1 : wr.frozen? ⟨go37,(x11_3 : Int).toNat * 3 + 1,none⟩ = false:=hfr37 1
             have hf37_2 : wr.frozen? ⟨go37,(x11_3 : Int).toNat * 3 + 2,none⟩ = false:=hfr37 2
             clear hcl37 hcc37 hfr37 hM37
             replace p37:=eq_true p37
             replace q37:=eq_true q37
             have HX38:=Aside0.mk (show Kd.R k52 52 wr w.heap.size (fun k_ => some k_ ≠ (.slice Ao11 t369.length co11 : Value).ownBlock ∧ some k_ ≠ (.slice Ao33 x6_2.length co33 : Value).ownBlock) (.slice (some ⟨go37,0,none⟩) x8_3.length co34) x8_3 from (by (with_reducible repeat (first|apply Kd.R_alloc|apply Kd.R_drewN|apply Kd.R_drew));exact HO_8.out))
             obtain ⟨ce38,hcl38,hM38,hcc38,hfr38⟩:=Kd.R_elem HX38.out z52 (x11_3 : Int) (of_decide_eq_true (by first|(with_reducible assumption)|assumption)) (by have h_ : (x11_3 : Int) < ((x8_3.length : Int) : Int):=of_decide_eq_true (by first|(with_reducible assumption)|assumption);first|exact h_|(have e_:=(Kd.R_reads' HO_8.out).1;omega)|simpa using h_)
             obtain rfl:=k52_openM hM38
             have HP38:=Kd.R_seg HX38.out (x11_3 : Int) (of_decide_eq_true (by first|(with_reducible assumption)|assumption)) (by have h_ : (x11_3 : Int) < ((x8_3.length : Int) : Int):=of_decide_eq_true (by first|(with_reducible assumption)|assumption);first|exact h_|(have e_:=(Kd.R_reads' HO_8.out).1;omega)|simpa using h_) (seg:=[.int .i64 (-2),.string (⟨#[]⟩ : ByteArray),.int .i64 0]) (j:=0) hcl38 hcc38 (show 3 ≤ 3 from by decide) (x':=(⟨(-2),(⟨#[]⟩ : ByteArray),0⟩ : S52)) (k52_mkM _ _ _ (⟨(-2),(⟨#[]⟩ : ByteArray),0⟩ : S52) ) (fun _ hk => hk)
             have hx38_0:=hcc38 0 _ rfl
             (try simp only [show (k52).sz = 3 from rfl,Nat.mul_one,Nat.add_zero] at hx38_0)
             have hf38_0:=hfr38 0
             (try simp only [show (k52).sz = 3 from rfl,Nat.mul_one,Nat.add_zero] at hf38_0)
             have hx38_1:=hcc38 1 _ rfl
             (try simp only [show (k52).sz = 3 from rfl,Nat.mul_one,Nat.add_zero] at hx38_1)
             have hf38_1:=hfr38 1
             (try simp only [show (k52).sz = 3 from rfl,Nat.mul_one,Nat.add_zero] at hf38_1)
             have hx38_2:=hcc38 2 _ rfl
             (try simp only [show (k52).sz = 3 from rfl,Nat.mul_one,Nat.add_zero] at hx38_2)
             have hf38_2:=hfr38 2
             (try simp only [show (k52).sz = 3 from rfl,Nat.mul_one,Nat.add_zero] at hf38_2)
             clear hcl38 hcc38 hfr38 hM38
             go_wp2_with (first|((with_reducible refine gate_store (t:=52) (p:=83) rfl ?_);refine store_event (t:=52) (p:=83) (v:=?vo_w39) (w1:=(((wr.setCell ⟨go37,(x11_3 : Int).toNat * 3,none⟩ (.int .i64 (-2))).setCell ⟨go37,(x11_3 : Int).toNat * 3 + 1,none⟩ (.string (⟨#[]⟩ : ByteArray))).setCell ⟨go37,(x11_3 : Int).toNat * 3 + 2,none⟩ (.int .i64 0))) ?hg ?ho ?hn ?hr ?_;(case ho => rfl);(case hg => rfl);(case hn => rfl);(case hr => first|(go_simp;done)|(go_simp;rfl));intro w39 hw;have hg : wr.grownBy w39 (some go37):=(by rw [hw];exact HP38.2);have hp_ : Kd.R k52 52 w39 w.heap.size (fun k_ => some k_ ≠ (.slice Ao11 t369.length co11 : Value).ownBlock ∧ some k_ ≠ (.slice Ao33 x6_2.length co33 : Value).ownBlock) (.slice (some ⟨go37,0,none⟩) x8_3.length co34) y386:=(by rw [hw,Ny386.out];exact HP38.1);clear HP38;have n0_:=Aside0.mk (Kd.R_after (v:=(.slice (some ⟨go37,0,none⟩) x8_3.length co34)) (v1:=(.slice (some ⟨go37,0,none⟩) x8_3.length co34)) (ok:=(fun k_ => some k_ ≠ (.slice Ao33 x6_2.length co33 : Value).ownBlock)) (by (with_reducible repeat (first|apply Kd.R_alloc|apply Kd.R_drewN|apply Kd.R_drew));exact HO_3.out) hg (.inl rfl));have n1_:=Aside0.mk (Kd.R_after (v:=(.slice (some ⟨go37,0,none⟩) x8_3.length co34)) (v1:=(.slice (some ⟨go37,0,none⟩) x8_3.length co34)) (ok:=(fun k_ => some k_ ≠ (.slice Ao11 t369.length co11 : Value).ownBlock)) (by (with_reducible repeat (first|apply Kd.R_alloc|apply Kd.R_drewN|apply Kd.R_drew));exact HO_6.out) hg (.inl rfl));have n2_:=Aside0.mk (hp_);have n3_:=Aside0.mk ((by rw [hw];exact below_set (below_set (below_set (HB.out) GB37.out) GB37.out) GB37.out : Below w.heap.size w w39));clear HO_3;clear HO_6;clear HO_8;clear HB;have HO_3:=n0_;have HO_6:=n1_;have HO_8:=n2_;have HB:=n3_;clear n0_ n1_ n2_ n3_;clear hg hw hp_))
             (try simp only [← hl8_3])
             go_roundg k3
             case measure => have:=HJ7.out;have:=HK2.out;have:=HK3.out;omega
             case rel => exact ⟨(y386),(wrap64 (x11_3 + 1)),(by first|rfl|(simp;done)|(simp [Go.Proofs.Ytbohpjbcjnapfaa.Z.bne_nil,Go.Proofs.Ytbohpjbcjnapfaa.Z.beq_nil];done)|(simp [*];done)),H',⟨by have:=HJ7.out;have:=HK2.out;have:=HK3.out;omega⟩,⟨by (try simp only [hl8_3]);(with_reducible repeat (first|apply Kd.R_alloc|apply Kd.R_drewN|apply Kd.R_drew));exact HO_3.out⟩,⟨by (try simp only [hl8_3]);(with_reducible repeat (first|apply Kd.R_alloc|apply Kd.R_drewN|apply Kd.R_drew));exact HO_6.out⟩,⟨by (try simp only [hl8_3]);(with_reducible repeat (first|apply Kd.R_alloc|apply Kd.R_drewN|apply Kd.R_drew));exact HO_8.out⟩,⟨by repeat (first|(with_reducible first|exact HB.out|apply below_alloc|apply pw_below_drewN|apply below_drew1)|exact HB.out)⟩⟩
            ·rw [if_neg c36] at H
             exact absurd H (by simp)
           ·rw [if_neg c35] at H
            have c35b0 : decide (x11_3 < (x8_3.length : Int)) = false:=decide_eq_false c35
            clear c35
            by_cases c40 : x6_2.length < 4398046511104
            ·rw [if_pos c40] at H
             have LMc40:=Aside0.mk c40
             clear c40
             obtain ⟨y387,hy387⟩ : ∃ y_ : List (S52),y_ = (x6_2 ++ [(⟨(-3),(⟨#[]⟩ : ByteArray),0⟩ : S52)]):=⟨_,rfl⟩
             replace H : (if x8_3.length < 4398046511104 then (cofferlaw05_TupleApart.l2 k3 t369 t372 y387 (x8_3 ++ [(⟨(-4),(⟨#[]⟩ : ByteArray),0⟩ : S52)]) 0) else (none)) = some r:=by first|(rw [hy387];with_reducible exact H)|(have H2_:=(Option.bind_some _ _).symm.trans H;rw [hy387];with_reducible exact H2_)|(have H2_:=(Option.bind_some _ _).symm.trans H;with_reducible exact H2_)|with_reducible exact H|(rw [hy387];exact H)|exact H
             have Ny387:=Aside0.mk hy387
             clear hy387
             by_cases c41 : x8_3.length < 4398046511104
             ·rw [if_pos c41] at H
              have LMc41:=Aside0.mk c41
              clear c41
              obtain ⟨y390,hy390⟩ : ∃ y_ : List (S52),y_ = (x8_3 ++ [(⟨(-4),(⟨#[]⟩ : ByteArray),0⟩ : S52)]):=⟨_,rfl⟩
              replace H : (cofferlaw05_TupleApart.l2 k3 t369 t372 y387 y390 0) = some r:=by first|(rw [hy390];with_reducible exact H)|(have H2_:=(Option.bind_some _ _).symm.trans H;rw [hy390];with_reducible exact H2_)|(have H2_:=(Option.bind_some _ _).symm.trans H;with_reducible exact H2_)|with_reducible exact H|(rw [hy390];exact H)|exact H
              have Ny390:=Aside0.mk hy390
              clear hy390
              have H':=Aside0.mk H
              clear H
              go_wp2_with (first|((with_reducible refine gate_builtin (b:=.append) (xs:=#[.tmp 84,.tmp 86]) rfl ?_);(try (refine gate_guard (by rfl) ?_;dsimp only));at_builtin;refine Kd.R_append k52 (w0:=w) w.heap.size rfl (.tmp 84) (.tmp 86) 30 52 (.agg #[(.int .i64 0),(.string ⟨#[]⟩),(.int .i64 0)]) 32 rfl Try.underlying30 info52 rfl (by decide) (by omega) (.slice Ao33 x6_2.length co33) x6_2 (⟨(-3),(⟨#[]⟩ : ByteArray),0⟩ : S52) [.int .i64 (-3),.string (⟨#[]⟩ : ByteArray),.int .i64 0] (fun k_ => some k_ ≠ (.slice Ao11 t369.length co11 : Value).ownBlock ∧ some k_ ≠ (.slice Ao34 x8_3.length co34 : Value).ownBlock) (fun _ => False) rfl rfl ?aP (fun _ hk => hk.elim) ?aF ?aO ?aB ?aS ?aL ?_;(case aP => exact k52_mkM _ _ _ (⟨(-3),(⟨#[]⟩ : ByteArray),0⟩ : S52));(case aB => exact (by repeat (first|(with_reducible first|exact HB.out|apply below_alloc|apply pw_below_drewN|apply below_drew1)|exact HB.out)));(case aF => exact (fun k_ hk => ⟨Kd.fresh' (Kd.R_lt (by (with_reducible repeat (first|apply Kd.R_alloc|apply Kd.R_drewN|apply Kd.R_drew));exact HO_3.out)) k_ hk,Kd.fresh' (Kd.R_lt (by (with_reducible repeat (first|apply Kd.R_alloc|apply Kd.R_drewN|apply Kd.R_drew));exact HO_8.out)) k_ hk⟩));(case aO => exact (by (with_reducible repeat (first|apply Kd.R_alloc|apply Kd.R_drewN|apply Kd.R_drew));exact HO_6.out));(case aS => exact (below_size (by repeat (first|(with_reducible first|exact HB.out|apply below_alloc|apply pw_below_drewN|apply below_drew1)|exact HB.out))));(case aL => have:=LMc40.out;omega);intro v388 w42 ho hb hg hat;rw [← Ny387.out] at ho;have n0_:=Aside0.mk (Kd.R_after (ok:=(fun k_ => some k_ ≠ (.slice Ao34 x8_3.length co34 : Value).ownBlock)) (by (with_reducible repeat (first|apply Kd.R_alloc|apply Kd.R_drewN|apply Kd.R_drew));exact Kd.R_mono HO_3.out (fun _ hk => ⟨hk.2,hk.1⟩)) hg hat);have n1_:=Aside0.mk (Kd.R_after (ok:=(fun k_ => some k_ ≠ (.slice Ao11 t369.length co11 : Value).ownBlock)) (by (with_reducible repeat (first|apply Kd.R_alloc|apply Kd.R_drewN|apply Kd.R_drew));exact HO_8.out) hg hat);have n2_:=Aside0.mk (hb);have n3_:=Aside0.mk (ho);clear HO_3;clear HO_8;clear HB;clear HO_6;have HO_3:=n0_;have HO_8:=n1_;have HB:=n2_;have HO389:=n3_;clear n0_ n1_ n2_ n3_;clear ho hb hg hat)|((with_reducible refine gate_builtin (b:=.append) (xs:=#[.tmp 88,.tmp 90]) rfl ?_);(try (refine gate_guard (by rfl) ?_;dsimp only));at_builtin;refine Kd.R_append k52 (w0:=w) w.heap.size rfl (.tmp 88) (.tmp 90) 30 52 (.agg #[(.int .i64 0),(.string ⟨#[]⟩),(.int .i64 0)]) 32 rfl Try.underlying30 info52 rfl (by decide) (by omega) (.slice Ao34 x8_3.length co34) x8_3 (⟨(-4),(⟨#[]⟩ : ByteArray),0⟩ : S52) [.int .i64 (-4),.string (⟨#[]⟩ : ByteArray),.int .i64 0] (fun k_ => some k_ ≠ (.slice Ao11 t369.length co11 : Value).ownBlock ∧ some k_ ≠ (v388 : Value).ownBlock) (fun _ => False) rfl rfl ?aP (fun _ hk => hk.elim) ?aF ?aO ?aB ?aS ?aL ?_;(case aP => exact k52_mkM _ _ _ (⟨(-4),(⟨#[]⟩ : ByteArray),0⟩ : S52));(case aB => exact (by repeat (first|(with_reducible first|exact HB.out|apply below_alloc|apply pw_below_drewN|apply below_drew1)|exact HB.out)));(case aF => exact (fun k_ hk => ⟨Kd.fresh' (Kd.R_lt (by (with_reducible repeat (first|apply Kd.R_alloc|apply Kd.R_drewN|apply Kd.R_drew));exact HO_3.out)) k_ hk,Kd.fresh' (Kd.R_lt (by (with_reducible repeat (first|apply Kd.R_alloc|apply Kd.R_drewN|apply Kd.R_drew));exact HO389.out)) k_ hk⟩));(case aO => exact (by (with_reducible repeat (first|apply Kd.R_alloc|apply Kd.R_drewN|apply Kd.R_drew));exact HO_8.out));(case aS => exact (below_size (by repeat (first|(with_reducible first|exact HB.out|apply below_alloc|apply pw_below_drewN|apply below_drew1)|exact HB.out))));(case aL => have:=LMc41.out;omega);intro v391 w43 ho hb hg hat;rw [← Ny390.out] at ho;have n0_:=Aside0.mk (Kd.R_after (ok:=(fun k_ => some k_ ≠ (v388 : Value).ownBlock)) (by (with_reducible repeat (first|apply Kd.R_alloc|apply Kd.R_drewN|apply Kd.R_drew));exact Kd.R_mono HO_3.out (fun _ hk => ⟨hk.2,hk.1⟩)) hg hat);have n1_:=Aside0.mk (Kd.R_after (ok:=(fun k_ => some k_ ≠ (.slice Ao11 t369.length co11 : Value).ownBlock)) (by (with_reducible repeat (first|apply Kd.R_alloc|apply Kd.R_drewN|apply Kd.R_drew));exact HO389.out) hg hat);have n2_:=Aside0.mk (hb);have n3_:=Aside0.mk (ho);clear HO_3;clear HO389;clear HB;clear HO_8;have HO_3:=n0_;have HO389:=n1_;have HB:=n2_;have HO392:=n3_;clear n0_ n1_ n2_ n3_;clear ho hb hg hat))
              go_loopg [12,13,14] k3 (fun kq v12 v13 v14 w' => ∃ (x12_4 : List (S52)) (x13_4 : List (S52)) (x14_4 : Int),v14 = .int .i64 x14_4 ∧ Aside0 (cofferlaw05_TupleApart.l2 kq t369 t372 x12_4 x13_4 x14_4 = some r) ∧ Aside0 (kq ≤ k3) ∧ Aside0 (Kd.R k52 52 w' w.heap.size (fun k_ => some k_ ≠ (v12 : Value).ownBlock ∧ some k_ ≠ (v13 : Value).ownBlock) (.slice Ao11 t369.length co11) t369) ∧ Aside0 (Kd.R k52 52 w' w.heap.size (fun k_ => some k_ ≠ ((.slice Ao11 t369.length co11) : Value).ownBlock ∧ some k_ ≠ (v13 : Value).ownBlock) v12 x12_4) ∧ Aside0 (Kd.R k52 52 w' w.heap.size (fun k_ => some k_ ≠ ((.slice Ao11 t369.length co11) : Value).ownBlock ∧ some k_ ≠ (v12 : Value).ownBlock) v13 x13_4) ∧ Aside0 (Below w.heap.size w w'))
              case atStart => exact ⟨(y387),(y390),(0),(by first|rfl|(simp;done)|(simp [Go.Proofs.Ytbohpjbcjnapfaa.Z.bne_nil,Go.Proofs.Ytbohpjbcjnapfaa.Z.beq_nil];done)|(simp [*];done)),H',⟨Nat.le_refl _⟩,⟨by (try simp only [hl8_3]);(with_reducible repeat (first|apply Kd.R_alloc|apply Kd.R_drewN|apply Kd.R_drew));exact HO_3.out⟩,⟨by (try simp only [hl8_3]);(with_reducible repeat (first|apply Kd.R_alloc|apply Kd.R_drewN|apply Kd.R_drew));exact HO389.out⟩,⟨by (try simp only [hl8_3]);(with_reducible repeat (first|apply Kd.R_alloc|apply Kd.R_drewN|apply Kd.R_drew));exact HO392.out⟩,⟨by repeat (first|(with_reducible first|exact HB.out|apply below_alloc|apply pw_below_drewN|apply below_drew1)|exact HB.out)⟩⟩
              case round =>
               clear H'
               try clear c1
               try clear c2
               try clear p2
               try clear q2
               try clear hx2
               try clear hf2
               try clear c3
               try clear p3
               try clear q3
               try clear hx3
               try clear hf3
               try clear c4
               try clear p6
               try clear c9
               try clear c10
               try clear c15
               try clear c15b0
               try clear c15b1
               try clear c16
               try clear c16b0
               try clear c16b1
               try clear c17
               try clear c17b0
               try clear c17b1
               try clear c19
               try clear c22
               try clear c24
               try clear c25
               try clear c25b0
               try clear c26
               try clear c26b0
               try clear c27
               try clear p27
               try clear q27
               try clear hx27
               try clear hf27
               try clear c29
               try clear hx29
               try clear hf29
               try clear c32
               try clear c35
               try clear c35b0
               try clear c36
               try clear c36b0
               try clear c37
               try clear p37
               try clear q37
               try clear hx37
               try clear hf37
               try clear c38
               try clear hx38
               try clear hf38
               try clear c40
               try clear c41
               try clear hx27_0
               try clear hx27_1
               try clear hx27_2
               try clear hx29_0
               try clear hx29_1
               try clear hx29_2
               try clear hx37_0
               try clear hx37_1
               try clear hx37_2
               try clear hx38_0
               try clear hx38_1
               try clear hx38_2
               try clear p2
               try clear p27
               try clear p37
               try clear p6
               try clear q2
               try clear q27
               try clear q37
               obtain ⟨x12_4,x13_4,x14_4,rfl,HA,HK4,HO_3,HO_12,HO_13,HB⟩:=hrel
               cases gk with
               | zero => exact absurd HA.out (by simp [cofferlaw05_TupleApart.l2])
               | succ k4 =>
                have H:=HA.out
                clear HA
                simp only [cofferlaw05_TupleApart.l2] at H
                by_cases c44 : x14_4 < 16
                ·rw [if_pos c44] at H
                 have c44b0 : decide (x14_4 < 16) = true:=decide_eq_true c44
                 clear c44
                 by_cases c45 : x12_4.length < 4398046511104
                 ·rw [if_pos c45] at H
                  have LMc45:=Aside0.mk c45
                  clear c45
                  obtain ⟨y393,hy393⟩ : ∃ y_ : List (S52),y_ = (x12_4 ++ [(⟨(-5),(⟨#[]⟩ : ByteArray),0⟩ : S52)]):=⟨_,rfl⟩
                  replace H : (if x13_4.length < 4398046511104 then (cofferlaw05_TupleApart.l2 k4 t369 t372 y393 (x13_4 ++ [(⟨(-6),(⟨#[]⟩ : ByteArray),0⟩ : S52)]) (wrap64 (x14_4 + 1))) else (none)) = some r:=by first|(rw [hy393];with_reducible exact H)|(have H2_:=(Option.bind_some _ _).symm.trans H;rw [hy393];with_reducible exact H2_)|(have H2_:=(Option.bind_some _ _).symm.trans H;with_reducible exact H2_)|with_reducible exact H|(rw [hy393];exact H)|exact H
                  have Ny393:=Aside0.mk hy393
                  clear hy393
                  by_cases c46 : x13_4.length < 4398046511104
                  ·rw [if_pos c46] at H
                   have LMc46:=Aside0.mk c46
                   clear c46
                   obtain ⟨y396,hy396⟩ : ∃ y_ : List (S52),y_ = (x13_4 ++ [(⟨(-6),(⟨#[]⟩ : ByteArray),0⟩ : S52)]):=⟨_,rfl⟩
                   replace H : (cofferlaw05_TupleApart.l2 k4 t369 t372 y393 y396 (wrap64 (x14_4 + 1))) = some r:=by first|(rw [hy396];with_reducible exact H)|(have H2_:=(Option.bind_some _ _).symm.trans H;rw [hy396];with_reducible exact H2_)|(have H2_:=(Option.bind_some _ _).symm.trans H;with_reducible exact H2_)|with_reducible exact H|(rw [hy396];exact H)|exact H
                   have Ny396:=Aside0.mk hy396
                   clear hy396
                   have H':=Aside0.mk H
                   clear H
                   go_wp2_with (first|((with_reducible refine gate_builtin (b:=.append) (xs:=#[.tmp 96,.tmp 98]) rfl ?_);(try (refine gate_guard (by rfl) ?_;dsimp only));at_builtin;refine Kd.R_append k52 (w0:=w) w.heap.size rfl (.tmp 96) (.tmp 98) 30 52 (.agg #[(.int .i64 0),(.string ⟨#[]⟩),(.int .i64 0)]) 32 rfl Try.underlying30 info52 rfl (by decide) (by omega) u12 x12_4 (⟨(-5),(⟨#[]⟩ : ByteArray),0⟩ : S52) [.int .i64 (-5),.string (⟨#[]⟩ : ByteArray),.int .i64 0] (fun k_ => some k_ ≠ (.slice Ao11 t369.length co11 : Value).ownBlock ∧ some k_ ≠ (u13 : Value).ownBlock) (fun _ => False) rfl rfl ?aP (fun _ hk => hk.elim) ?aF ?aO ?aB ?aS ?aL ?_;(case aP => exact k52_mkM _ _ _ (⟨(-5),(⟨#[]⟩ : ByteArray),0⟩ : S52));(case aB => exact (by repeat (first|(with_reducible first|exact HB.out|apply below_alloc|apply pw_below_drewN|apply below_drew1)|exact HB.out)));(case aF => exact (fun k_ hk => ⟨Kd.fresh' (Kd.R_lt (by (with_reducible repeat (first|apply Kd.R_alloc|apply Kd.R_drewN|apply Kd.R_drew));exact HO_3.out)) k_ hk,Kd.fresh' (Kd.R_lt (by (with_reducible repeat (first|apply Kd.R_alloc|apply Kd.R_drewN|apply Kd.R_drew));exact HO_13.out)) k_ hk⟩));(case aO => exact (by (with_reducible repeat (first|apply Kd.R_alloc|apply Kd.R_drewN|apply Kd.R_drew));exact HO_12.out));(case aS => exact (below_size (by repeat (first|(with_reducible first|exact HB.out|apply below_alloc|apply pw_below_drewN|apply below_drew1)|exact HB.out))));(case aL => have:=LMc45.out;omega);intro v394 w47 ho hb hg hat;rw [← Ny393.out] at ho;have n0_:=Aside0.mk (Kd.R_after (ok:=(fun k_ => some k_ ≠ (u13 : Value).ownBlock)) (by (with_reducible repeat (first|apply Kd.R_alloc|apply Kd.R_drewN|apply Kd.R_drew));exact Kd.R_mono HO_3.out (fun _ hk => ⟨hk.2,hk.1⟩)) hg hat);have n1_:=Aside0.mk (Kd.R_after (ok:=(fun k_ => some k_ ≠ (.slice Ao11 t369.length co11 : Value).ownBlock)) (by (with_reducible repeat (first|apply Kd.R_alloc|apply Kd.R_drewN|apply Kd.R_drew));exact HO_13.out) hg hat);have n2_:=Aside0.mk (hb);have n3_:=Aside0.mk (ho);clear HO_3;clear HO_13;clear HB;clear HO_12;have HO_3:=n0_;have HO_13:=n1_;have HB:=n2_;have HO395:=n3_;clear n0_ n1_ n2_ n3_;clear ho hb hg hat)|((with_reducible refine gate_builtin (b:=.append) (xs:=#[.tmp 100,.tmp 102]) rfl ?_);(try (refine gate_guard (by rfl) ?_;dsimp only));at_builtin;refine Kd.R_append k52 (w0:=w) w.heap.size rfl (.tmp 100) (.tmp 102) 30 52 (.agg #[(.int .i64 0),(.string ⟨#[]⟩),(.int .i64 0)]) 32 rfl Try.underlying30 info52 rfl (by decide) (by omega) u13 x13_4 (⟨(-6),(⟨#[]⟩ : ByteArray),0⟩ : S52) [.int .i64 (-6),.string (⟨#[]⟩ : ByteArray),.int .i64 0] (fun k_ => some k_ ≠ (.slice Ao11 t369.length co11 : Value).ownBlock ∧ some k_ ≠ (v394 : Value).ownBlock) (fun _ => False) rfl rfl ?aP (fun _ hk => hk.elim) ?aF ?aO ?aB ?aS ?aL ?_;(case aP => exact k52_mkM _ _ _ (⟨(-6),(⟨#[]⟩ : ByteArray),0⟩ : S52));(case aB => exact (by repeat (first|(with_reducible first|exact HB.out|apply below_alloc|apply pw_below_drewN|apply below_drew1)|exact HB.out)));(case aF => exact (fun k_ hk => ⟨Kd.fresh' (Kd.R_lt (by (with_reducible repeat (first|apply Kd.R_alloc|apply Kd.R_drewN|apply Kd.R_drew));exact HO_3.out)) k_ hk,Kd.fresh' (Kd.R_lt (by (with_reducible repeat (first|apply Kd.R_alloc|apply Kd.R_drewN|apply Kd.R_drew));exact HO395.out)) k_ hk⟩));(case aO => exact (by (with_reducible repeat (first|apply Kd.R_alloc|apply Kd.R_drewN|apply Kd.R_drew));exact HO_13.out));(case aS => exact (below_size (by repeat (first|(with_reducible first|exact HB.out|apply below_alloc|apply pw_below_drewN|apply below_drew1)|exact HB.out))));(case aL => have:=LMc46.out;omega);intro v397 w48 ho hb hg hat;rw [← Ny396.out] at ho;have n0_:=Aside0.mk (Kd.R_after (ok:=(fun k_ => some k_ ≠ (v394 : Value).ownBlock)) (by (with_reducible repeat (first|apply Kd.R_alloc|apply Kd.R_drewN|apply Kd.R_drew));exact Kd.R_mono HO_3.out (fun _ hk => ⟨hk.2,hk.1⟩)) hg hat);have n1_:=Aside0.mk (Kd.R_after (ok:=(fun k_ => some k_ ≠ (.slice Ao11 t369.length co11 : Value).ownBlock)) (by (with_reducible repeat (first|apply Kd.R_alloc|apply Kd.R_drewN|apply Kd.R_drew));exact HO395.out) hg hat);have n2_:=Aside0.mk (hb);have n3_:=Aside0.mk (ho);clear HO_3;clear HO395;clear HB;clear HO_13;have HO_3:=n0_;have HO395:=n1_;have HB:=n2_;have HO398:=n3_;clear n0_ n1_ n2_ n3_;clear ho hb hg hat))
                   go_roundg k4
                   case measure => have:=HJ7.out;have:=HK2.out;have:=HK3.out;have:=HK4.out;omega
                   case rel => exact ⟨(y393),(y396),(wrap64 (x14_4 + 1)),(by first|rfl|(simp;done)|(simp [Go.Proofs.Ytbohpjbcjnapfaa.Z.bne_nil,Go.Proofs.Ytbohpjbcjnapfaa.Z.beq_nil];done)|(simp [*];done)),H',⟨by have:=HJ7.out;have:=HK2.out;have:=HK3.out;have:=HK4.out;omega⟩,⟨by (try simp only [hl8_3]);(with_reducible repeat (first|apply Kd.R_alloc|apply Kd.R_drewN|apply Kd.R_drew));exact HO_3.out⟩,⟨by (try simp only [hl8_3]);(with_reducible repeat (first|apply Kd.R_alloc|apply Kd.R_drewN|apply Kd.R_drew));exact HO395.out⟩,⟨by (try simp only [hl8_3]);(with_reducible repeat (first|apply Kd.R_alloc|apply Kd.R_drewN|apply Kd.R_drew));exact HO398.out⟩,⟨by repeat (first|(with_reducible first|exact HB.out|apply below_alloc|apply pw_below_drewN|apply below_drew1)|exact HB.out)⟩⟩
                  ·rw [if_neg c46] at H
                   exact absurd H (by simp)
                 ·rw [if_neg c45] at H
                  exact absurd H (by simp)
                ·rw [if_neg c44] at H
                 have c44b0 : decide (x14_4 < 16) = false:=decide_eq_false c44
                 clear c44
                 replace H:=Option.bind_eq_some_iff.mp H
                 obtain ⟨⟨t399,t400⟩,A490,H⟩:=H
                 replace H : (cofferlaw05_TupleApart.l3 k4 t369 x12_4 x13_4 t399 t400 0) = some r:=H
                 have A49:=Aside0.mk A490
                 clear A490
                 have H':=Aside0.mk H
                 clear H
                 go_wp2_with (first|((with_reducible refine gate_callee (f:=19) rfl ?_);refine goesL_ (some 106) rfl rfl Try.func19 (by kernel_rfl) rfl #[.string t372] rfl (by (try simp only [List.map_toArray,List.map_cons,List.map_nil]);first|done|rfl|(simp only [List.length_drop,List.length_take];rfl)) ?_;(with_reducible refine (tuple_Read.calls k4 t372 t399 t400 _ A49.out).mono ?_);rintro e w50 ⟨v401,rfl,ho0,hb⟩;refine ⟨_,rfl,?_⟩;have n0_:=Aside0.mk (Kd.R_elder' (by (with_reducible repeat (first|apply Kd.R_alloc|apply Kd.R_drewN|apply Kd.R_drew));exact HO_3.out) (Kd.R_base ho0) hb);have n1_:=Aside0.mk (Kd.R_elder' (by (with_reducible repeat (first|apply Kd.R_alloc|apply Kd.R_drewN|apply Kd.R_drew));exact HO_12.out) (Kd.R_base ho0) hb);have n2_:=Aside0.mk (Kd.R_elder' (by (with_reducible repeat (first|apply Kd.R_alloc|apply Kd.R_drewN|apply Kd.R_drew));exact HO_13.out) (Kd.R_base ho0) hb);have n3_:=Aside0.mk (Kd.R_lower (Kd.R_new' (Kd.R_new' (Kd.R_new' ho0 (Kd.R_lt (by (with_reducible repeat (first|apply Kd.R_alloc|apply Kd.R_drewN|apply Kd.R_drew));exact HO_3.out))) (Kd.R_lt (by (with_reducible repeat (first|apply Kd.R_alloc|apply Kd.R_drewN|apply Kd.R_drew));exact HO_12.out))) (Kd.R_lt (by (with_reducible repeat (first|apply Kd.R_alloc|apply Kd.R_drewN|apply Kd.R_drew));exact HO_13.out))) (below_size (by repeat (first|(with_reducible first|exact HB.out|apply below_alloc|apply pw_below_drewN|apply below_drew1)|exact HB.out))));have n4_:=Aside0.mk (below_step (by repeat (first|(with_reducible first|exact HB.out|apply below_alloc|apply pw_below_drewN|apply below_drew1)|exact HB.out)) hb);clear HO_3;clear HO_12;clear HO_13;clear HB;have HO_3:=n0_;have HO_12:=n1_;have HO_13:=n2_;have HO402:=n3_;have HB:=n4_;clear n0_ n1_ n2_ n3_ n4_;(try clear hb);(try clear hb2);(try clear hk);(try clear hi);(try clear ho0)))
                 go_loopg [17] k4 (fun kq v17 w' => ∃ (x17_5 : Int),v17 = .int .i64 x17_5 ∧ Aside0 (cofferlaw05_TupleApart.l3 kq t369 x12_4 x13_4 t399 t400 x17_5 = some r) ∧ Aside0 (kq ≤ k4) ∧ Aside0 (Kd.R k52 52 w' w.heap.size (fun k_ => some k_ ≠ (u12 : Value).ownBlock ∧ some k_ ≠ (u13 : Value).ownBlock ∧ some k_ ≠ (v401 : Value).ownBlock) (.slice Ao11 t369.length co11) t369) ∧ Aside0 (Kd.R k52 52 w' w.heap.size (fun k_ => some k_ ≠ ((.slice Ao11 t369.length co11) : Value).ownBlock ∧ some k_ ≠ (u13 : Value).ownBlock ∧ some k_ ≠ (v401 : Value).ownBlock) u12 x12_4) ∧ Aside0 (Kd.R k52 52 w' w.heap.size (fun k_ => some k_ ≠ ((.slice Ao11 t369.length co11) : Value).ownBlock ∧ some k_ ≠ (u12 : Value).ownBlock ∧ some k_ ≠ (v401 : Value).ownBlock) u13 x13_4) ∧ Aside0 (Kd.R k52 52 w' w.heap.size (fun k_ => some k_ ≠ ((.slice Ao11 t369.length co11) : Value).ownBlock ∧ some k_ ≠ (u12 : Value).ownBlock ∧ some k_ ≠ (u13 : Value).ownBlock) v401 t399) ∧ Aside0 (Below w.heap.size w w'))
                 case atStart => exact ⟨(0),(by first|rfl|(simp;done)|(simp [Go.Proofs.Ytbohpjbcjnapfaa.Z.bne_nil,Go.Proofs.Ytbohpjbcjnapfaa.Z.beq_nil];done)|(simp [*];done)),H',⟨Nat.le_refl _⟩,⟨by (try simp only [hl8_3]);(with_reducible repeat (first|apply Kd.R_alloc|apply Kd.R_drewN|apply Kd.R_drew));exact Kd.R_mono HO_3.out (fun _ hk => ⟨hk.1.1,⟨hk.1.2,hk.2⟩⟩)⟩,⟨by (try simp only [hl8_3]);(with_reducible repeat (first|apply Kd.R_alloc|apply Kd.R_drewN|apply Kd.R_drew));exact Kd.R_mono HO_12.out (fun _ hk => ⟨hk.1.1,⟨hk.1.2,hk.2⟩⟩)⟩,⟨by (try simp only [hl8_3]);(with_reducible repeat (first|apply Kd.R_alloc|apply Kd.R_drewN|apply Kd.R_drew));exact Kd.R_mono HO_13.out (fun _ hk => ⟨hk.1.1,⟨hk.1.2,hk.2⟩⟩)⟩,⟨by (try simp only [hl8_3]);(with_reducible repeat (first|apply Kd.R_alloc|apply Kd.R_drewN|apply Kd.R_drew));exact Kd.R_mono HO402.out (fun _ hk => ⟨hk.1.1.2,⟨hk.1.2,hk.2⟩⟩)⟩,⟨by repeat (first|(with_reducible first|exact HB.out|apply below_alloc|apply pw_below_drewN|apply below_drew1)|exact HB.out)⟩⟩
                 case round =>
                  clear H'
                  try clear c1
                  try clear c2
                  try clear p2
                  try clear q2
                  try clear hx2
                  try clear hf2
                  try clear c3
                  try clear p3
                  try clear q3
                  try clear hx3
                  try clear hf3
                  try clear c4
                  try clear p6
                  try clear c9
                  try clear c10
                  try clear c15
                  try clear c15b0
                  try clear c15b1
                  try clear c16
                  try clear c16b0
                  try clear c16b1
                  try clear c17
                  try clear c17b0
                  try clear c17b1
                  try clear c19
                  try clear c22
                  try clear c24
                  try clear c25
                  try clear c25b0
                  try clear c26
                  try clear c26b0
                  try clear c27
                  try clear p27
                  try clear q27
                  try clear hx27
                  try clear hf27
                  try clear c29
                  try clear hx29
                  try clear hf29
                  try clear c32
                  try clear c35
                  try clear c35b0
                  try clear c36
                  try clear c36b0
                  try clear c37
                  try clear p37
                  try clear q37
                  try clear hx37
                  try clear hf37
                  try clear c38
                  try clear hx38
                  try clear hf38
                  try clear c40
                  try clear c41
                  try clear c44
                  try clear c44b0
                  try clear c45
                  try clear c46
                  try clear hx27_0
                  try clear hx27_1
                  try clear hx27_2
                  try clear hx29_0
                  try clear hx29_1
                  try clear hx29_2
                  try clear hx37_0
                  try clear hx37_1
                  try clear hx37_2
                  try clear hx38_0
                  try clear hx38_1
                  try clear hx38_2
                  try clear p2
                  try clear p27
                  try clear p3
                  try clear p37
                  try clear p6
                  try clear q2
                  try clear q27
                  try clear q3
                  try clear q37
                  obtain ⟨x17_5,rfl,HA,HK5,HO_3,HO_12,HO_13,HO_15,HB⟩:=hrel
                  cases gk with
                  | zero => exact absurd HA.out (by simp [cofferlaw05_TupleApart.l3])
                  | succ k5 =>
                   have H:=HA.out
                   clear HA
                   simp only [cofferlaw05_TupleApart.l3] at H
                   by_cases c51 : x17_5 < (t369.length : Int)
                   ·rw [if_pos c51] at H
                    have c51b0 : decide (x17_5 < (t369.length : Int)) = true:=decide_eq_true c51
                    clear c51
                    by_cases c52 : 0 ≤ x17_5
                    ·rw [if_pos c52] at H
                     have c52b0 : decide (0 ≤ x17_5) = true:=decide_eq_true c52
                     clear c52
                     by_cases c53 : x17_5 < (x12_4.length : Int)
                     ·rw [if_pos c53] at H
                      have c53b0 : decide (x17_5 < (x12_4.length : Int)) = true:=decide_eq_true c53
                      clear c53
                      by_cases c54 : ((rd_T52 x12_4 x17_5).f0) = (-1)
                      ·rw [if_pos c54] at H
                       have c54b0 : (((rd_T52 x12_4 x17_5).f0) == (-1)) = true:=beq_iff_eq.mpr c54
                       have c54b1 : (((rd_T52 x12_4 x17_5).f0) != (-1)) = false:=bne_eq_false_iff_eq.mpr c54
                       clear c54
                       by_cases c55 : x17_5 < (x13_4.length : Int)
                       ·rw [if_pos c55] at H
                        have c55b0 : decide (x17_5 < (x13_4.length : Int)) = true:=decide_eq_true c55
                        clear c55
                        by_cases c56 : ((rd_T52 x13_4 x17_5).f0) = (-2)
                        ·rw [if_pos c56] at H
                         have c56b0 : (((rd_T52 x13_4 x17_5).f0) == (-2)) = true:=beq_iff_eq.mpr c56
                         have c56b1 : (((rd_T52 x13_4 x17_5).f0) != (-2)) = false:=bne_eq_false_iff_eq.mpr c56
                         clear c56
                         have H':=Aside0.mk H
                         clear H
                         obtain ⟨Ao57,co57,eo57⟩:=Kd.R_slice HO_12.out
                         subst eo57
                         have p403 : 0 ≤ (x17_5 : Int):=of_decide_eq_true (by first|(with_reducible assumption)|assumption)
                         have q403 : x17_5 < (x12_4.length : Int):=of_decide_eq_true (by first|(with_reducible assumption)|assumption)
                         obtain ⟨ad403,e403,hx403_0,hx403_1,hx403_2⟩:=at_T52 (Kd.R_reads' HO_12.out).2.2 x17_5 p403 q403
                         cases e403
                         replace p403:=eq_true p403
                         replace q403:=eq_true q403
                         obtain ⟨Ao58,co58,eo58⟩:=Kd.R_slice HO_13.out
                         subst eo58
                         have p404 : 0 ≤ (x17_5 : Int):=of_decide_eq_true (by first|(with_reducible assumption)|assumption)
                         have q404 : x17_5 < (x13_4.length : Int):=of_decide_eq_true (by first|(with_reducible assumption)|assumption)
                         obtain ⟨ad404,e404,hx404_0,hx404_1,hx404_2⟩:=at_T52 (Kd.R_reads' HO_13.out).2.2 x17_5 p404 q404
                         cases e404
                         replace p404:=eq_true p404
                         replace q404:=eq_true q404
                         go_wp2
                         go_roundg k5
                         case measure => have:=HJ7.out;have:=HK2.out;have:=HK3.out;have:=HK4.out;have:=HK5.out;omega
                         case rel => exact ⟨(wrap64 (x17_5 + 1)),(by first|rfl|(simp;done)|(simp [Go.Proofs.Ytbohpjbcjnapfaa.Z.bne_nil,Go.Proofs.Ytbohpjbcjnapfaa.Z.beq_nil];done)|(simp [*];done)),H',⟨by have:=HJ7.out;have:=HK2.out;have:=HK3.out;have:=HK4.out;have:=HK5.out;omega⟩,⟨by (try simp only [hl8_3]);(with_reducible repeat (first|apply Kd.R_alloc|apply Kd.R_drewN|apply Kd.R_drew));exact HO_3.out⟩,⟨by (try simp only [hl8_3]);(with_reducible repeat (first|apply Kd.R_alloc|apply Kd.R_drewN|apply Kd.R_drew));exact HO_12.out⟩,⟨by (try simp only [hl8_3]);(with_reducible repeat (first|apply Kd.R_alloc|apply Kd.R_drewN|apply Kd.R_drew));exact HO_13.out⟩,⟨by (try simp only [hl8_3]);(with_reducible repeat (first|apply Kd.R_alloc|apply Kd.R_drewN|apply Kd.R_drew));exact HO_15.out⟩,⟨by repeat (first|(with_reducible first|exact HB.out|apply below_alloc|apply pw_below_drewN|apply below_drew1)|exact HB.out)⟩⟩
                        ·rw [if_neg c56] at H
                         exact absurd H (by simp)
                       ·rw [if_neg c55] at H
                        exact absurd H (by simp)
                      ·rw [if_neg c54] at H
                       exact absurd H (by simp)
                     ·rw [if_neg c53] at H
                      exact absurd H (by simp)
                    ·rw [if_neg c52] at H
                     exact absurd H (by simp)
                   ·rw [if_neg c51] at H
                    have c51b0 : decide (x17_5 < (t369.length : Int)) = false:=decide_eq_false c51
                    clear c51
                    have H':=Aside0.mk H
                    clear H
                    go_wp2
                    go_loopg [18] k5 (fun kq v18 w' => ∃ (x18_6 : Int),v18 = .int .i64 x18_6 ∧ Aside0 (cofferlaw05_TupleApart.l4 kq t369 x12_4 x13_4 t399 t400 x18_6 = some r) ∧ Aside0 (kq ≤ k5) ∧ Aside0 (Kd.R k52 52 w' w.heap.size (fun k_ => some k_ ≠ (u12 : Value).ownBlock ∧ some k_ ≠ (u13 : Value).ownBlock ∧ some k_ ≠ (v401 : Value).ownBlock) (.slice Ao11 t369.length co11) t369) ∧ Aside0 (Kd.R k52 52 w' w.heap.size (fun k_ => some k_ ≠ ((.slice Ao11 t369.length co11) : Value).ownBlock ∧ some k_ ≠ (u13 : Value).ownBlock ∧ some k_ ≠ (v401 : Value).ownBlock) u12 x12_4) ∧ Aside0 (Kd.R k52 52 w' w.heap.size (fun k_ => some k_ ≠ ((.slice Ao11 t369.length co11) : Value).ownBlock ∧ some k_ ≠ (u12 : Value).ownBlock ∧ some k_ ≠ (v401 : Value).ownBlock) u13 x13_4) ∧ Aside0 (Kd.R k52 52 w' w.heap.size (fun k_ => some k_ ≠ ((.slice Ao11 t369.length co11) : Value).ownBlock ∧ some k_ ≠ (u12 : Value).ownBlock ∧ some k_ ≠ (u13 : Value).ownBlock) v401 t399) ∧ Aside0 (Below w.heap.size w w'))
                    case atStart => exact ⟨(1),(by first|rfl|(simp;done)|(simp [Go.Proofs.Ytbohpjbcjnapfaa.Z.bne_nil,Go.Proofs.Ytbohpjbcjnapfaa.Z.beq_nil];done)|(simp [*];done)),H',⟨Nat.le_refl _⟩,⟨by (try simp only [hl8_3]);(with_reducible repeat (first|apply Kd.R_alloc|apply Kd.R_drewN|apply Kd.R_drew));exact HO_3.out⟩,⟨by (try simp only [hl8_3]);(with_reducible repeat (first|apply Kd.R_alloc|apply Kd.R_drewN|apply Kd.R_drew));exact HO_12.out⟩,⟨by (try simp only [hl8_3]);(with_reducible repeat (first|apply Kd.R_alloc|apply Kd.R_drewN|apply Kd.R_drew));exact HO_13.out⟩,⟨by (try simp only [hl8_3]);(with_reducible repeat (first|apply Kd.R_alloc|apply Kd.R_drewN|apply Kd.R_drew));exact HO_15.out⟩,⟨by repeat (first|(with_reducible first|exact HB.out|apply below_alloc|apply pw_below_drewN|apply below_drew1)|exact HB.out)⟩⟩
                    case round =>
                     clear H'
                     try clear c1
                     try clear c2
                     try clear p2
                     try clear q2
                     try clear hx2
                     try clear hf2
                     try clear c3
                     try clear p3
                     try clear q3
                     try clear hx3
                     try clear hf3
                     try clear c4
                     try clear p4
                     try clear q4
                     try clear hx4
                     try clear c5
                     try clear p6
                     try clear c9
                     try clear c10
                     try clear c15
                     try clear c15b0
                     try clear c15b1
                     try clear c16
                     try clear c16b0
                     try clear c16b1
                     try clear c17
                     try clear c17b0
                     try clear c17b1
                     try clear c19
                     try clear c22
                     try clear c24
                     try clear c25
                     try clear c25b0
                     try clear c26
                     try clear c26b0
                     try clear c27
                     try clear p27
                     try clear q27
                     try clear hx27
                     try clear hf27
                     try clear c29
                     try clear hx29
                     try clear hf29
                     try clear c32
                     try clear c35
                     try clear c35b0
                     try clear c36
                     try clear c36b0
                     try clear c37
                     try clear p37
                     try clear q37
                     try clear hx37
                     try clear hf37
                     try clear c38
                     try clear hx38
                     try clear hf38
                     try clear c40
                     try clear p40
                     try clear q40
                     try clear hx40
                     try clear c41
                     try clear c44
                     try clear c44b0
                     try clear c45
                     try clear c46
                     try clear c51
                     try clear c51b0
                     try clear c52
                     try clear c52b0
                     try clear c53
                     try clear c53b0
                     try clear c54
                     try clear c54b0
                     try clear c54b1
                     try clear c55
                     try clear c55b0
                     try clear c56
                     try clear c56b0
                     try clear c56b1
                     try clear hx27_0
                     try clear hx27_1
                     try clear hx27_2
                     try clear hx29_0
                     try clear hx29_1
                     try clear hx29_2
                     try clear hx37_0
                     try clear hx37_1
                     try clear hx37_2
                     try clear hx38_0
                     try clear hx38_1
                     try clear hx38_2
                     try clear hx403_0
                     try clear hx403_1
                     try clear hx403_2
                     try clear hx404_0
                     try clear hx404_1
                     try clear hx404_2
                     try clear p2
                     try clear p27
                     try clear p3
                     try clear p37
                     try clear p403
                     try clear p404
                     try clear p6
                     try clear q2
                     try clear q27
                     try clear q3
                     try clear q37
                     try clear q403
                     try clear q404
                     obtain ⟨x18_6,rfl,HA,HK6,HO_3,HO_12,HO_13,HO_15,HB⟩:=hrel
                     cases gk with
                     | zero => exact absurd HA.out (by simp [cofferlaw05_TupleApart.l4])
                     | succ k6 =>
                      have H:=HA.out
                      clear HA
                      simp only [cofferlaw05_TupleApart.l4] at H
                      by_cases c59 : x18_6 < 17
                      ·rw [if_pos c59] at H
                       have c59b0 : decide (x18_6 < 17) = true:=decide_eq_true c59
                       clear c59
                       obtain ⟨ji60,hji60⟩ : ∃ j_ : Int,(wrap64 ((t369.length : Int) + x18_6)) = j_:=⟨_,rfl⟩
                       replace H : (if 0 ≤ (ji60) then (if (ji60) < (x12_4.length : Int) then (if ((rd_T52 x12_4 (ji60)).f0) = (-5) then (if (ji60) < (x13_4.length : Int) then (if ((rd_T52 x13_4 (ji60)).f0) = (-6) then (cofferlaw05_TupleApart.l4 k6 t369 x12_4 x13_4 t399 t400 (wrap64 (x18_6 + 1))) else (none)) else (none)) else (none)) else (none)) else (none)) = some r:=by first|(rw [hji60] at H;exact H)|(simp only [hji60] at H ⊢;exact H)
                       have hji60w : (IntKind.i64.wrap ((t369.length : Int) + x18_6)) = ji60:=(i64_w _).trans hji60
                       by_cases c61 : 0 ≤ (ji60)
                       ·rw [if_pos c61] at H
                        have c61b0 : decide (0 ≤ (ji60)) = true:=decide_eq_true c61
                        clear c61
                        by_cases c62 : (ji60) < (x12_4.length : Int)
                        ·rw [if_pos c62] at H
                         have c62b0 : decide ((ji60) < (x12_4.length : Int)) = true:=decide_eq_true c62
                         clear c62
                         by_cases c63 : ((rd_T52 x12_4 (ji60)).f0) = (-5)
                         ·rw [if_pos c63] at H
                          have c63b0 : (((rd_T52 x12_4 (ji60)).f0) == (-5)) = true:=beq_iff_eq.mpr c63
                          have c63b1 : (((rd_T52 x12_4 (ji60)).f0) != (-5)) = false:=bne_eq_false_iff_eq.mpr c63
                          clear c63
                          by_cases c64 : (ji60) < (x13_4.length : Int)
                          ·rw [if_pos c64] at H
                           have c64b0 : decide ((ji60) < (x13_4.length : Int)) = true:=decide_eq_true c64
                           clear c64
                           by_cases c65 : ((rd_T52 x13_4 (ji60)).f0) = (-6)
                           ·rw [if_pos c65] at H
                            have c65b0 : (((rd_T52 x13_4 (ji60)).f0) == (-6)) = true:=beq_iff_eq.mpr c65
                            have c65b1 : (((rd_T52 x13_4 (ji60)).f0) != (-6)) = false:=bne_eq_false_iff_eq.mpr c65
                            clear c65
                            have H':=Aside0.mk H
                            clear H
                            obtain ⟨Ao66,co66,eo66⟩:=Kd.R_slice HO_12.out
                            subst eo66
                            have p405 : 0 ≤ ((ji60) : Int):=of_decide_eq_true (by first|(with_reducible assumption)|assumption)
                            have q405 : (ji60) < (x12_4.length : Int):=of_decide_eq_true (by first|(with_reducible assumption)|assumption)
                            obtain ⟨ad405,e405,hx405_0,hx405_1,hx405_2⟩:=at_T52 (Kd.R_reads' HO_12.out).2.2 (ji60) p405 q405
                            cases e405
                            replace p405:=eq_true p405
                            replace q405:=eq_true q405
                            obtain ⟨Ao67,co67,eo67⟩:=Kd.R_slice HO_13.out
                            subst eo67
                            have p406 : 0 ≤ ((ji60) : Int):=of_decide_eq_true (by first|(with_reducible assumption)|assumption)
                            have q406 : (ji60) < (x13_4.length : Int):=of_decide_eq_true (by first|(with_reducible assumption)|assumption)
                            obtain ⟨ad406,e406,hx406_0,hx406_1,hx406_2⟩:=at_T52 (Kd.R_reads' HO_13.out).2.2 (ji60) p406 q406
                            cases e406
                            replace p406:=eq_true p406
                            replace q406:=eq_true q406
                            go_wp2
                            go_roundg k6
                            case measure => have:=HJ7.out;have:=HK2.out;have:=HK3.out;have:=HK4.out;have:=HK5.out;have:=HK6.out;omega
                            case rel => exact ⟨(wrap64 (x18_6 + 1)),(by first|rfl|(simp;done)|(simp [Go.Proofs.Ytbohpjbcjnapfaa.Z.bne_nil,Go.Proofs.Ytbohpjbcjnapfaa.Z.beq_nil];done)|(simp [*];done)),H',⟨by have:=HJ7.out;have:=HK2.out;have:=HK3.out;have:=HK4.out;have:=HK5.out;have:=HK6.out;omega⟩,⟨by (try simp only [hl8_3]);(with_reducible repeat (first|apply Kd.R_alloc|apply Kd.R_drewN|apply Kd.R_drew));exact HO_3.out⟩,⟨by (try simp only [hl8_3]);(with_reducible repeat (first|apply Kd.R_alloc|apply Kd.R_drewN|apply Kd.R_drew));exact HO_12.out⟩,⟨by (try simp only [hl8_3]);(with_reducible repeat (first|apply Kd.R_alloc|apply Kd.R_drewN|apply Kd.R_drew));exact HO_13.out⟩,⟨by (try simp only [hl8_3]);(with_reducible repeat (first|apply Kd.R_alloc|apply Kd.R_drewN|apply Kd.R_drew));exact HO_15.out⟩,⟨by repeat (first|(with_reducible first|exact HB.out|apply below_alloc|apply pw_below_drewN|apply below_drew1)|exact HB.out)⟩⟩
                           ·rw [if_neg c65] at H
                            exact absurd H (by simp)
                          ·rw [if_neg c64] at H
                           exact absurd H (by simp)
                         ·rw [if_neg c63] at H
                          exact absurd H (by simp)
                        ·rw [if_neg c62] at H
                         exact absurd H (by simp)
                       ·rw [if_neg c61] at H
                        exact absurd H (by simp)
                      ·rw [if_neg c59] at H
                       have c59b0 : decide (x18_6 < 17) = false:=decide_eq_false c59
                       clear c59
                       by_cases c68 : 0 ≤ (t369.length : Int)
                       ·rw [if_pos c68] at H
                        have c68b0 : decide (0 ≤ (t369.length : Int)) = true:=decide_eq_true c68
                        have c68b1 : decide (0 ≤ t369.length) = true:=decide_eq_true (by omega)
                        clear c68
                        by_cases c69 : (t369.length : Int) < (x12_4.length : Int)
                        ·rw [if_pos c69] at H
                         have c69b0 : decide ((t369.length : Int) < (x12_4.length : Int)) = true:=decide_eq_true c69
                         have c69b1 : decide (t369.length < x12_4.length) = true:=decide_eq_true (Int.ofNat_lt.mp c69)
                         clear c69
                         by_cases c70 : ((rd_T52 x12_4 (t369.length : Int)).f0) = (-3)
                         ·rw [if_pos c70] at H
                          have c70b0 : (((rd_T52 x12_4 (t369.length : Int)).f0) == (-3)) = true:=beq_iff_eq.mpr c70
                          have c70b1 : (((rd_T52 x12_4 (t369.length : Int)).f0) != (-3)) = false:=bne_eq_false_iff_eq.mpr c70
                          clear c70
                          by_cases c71 : (t369.length : Int) < (x13_4.length : Int)
                          ·rw [if_pos c71] at H
                           have c71b0 : decide ((t369.length : Int) < (x13_4.length : Int)) = true:=decide_eq_true c71
                           have c71b1 : decide (t369.length < x13_4.length) = true:=decide_eq_true (Int.ofNat_lt.mp c71)
                           clear c71
                           by_cases c72 : ((rd_T52 x13_4 (t369.length : Int)).f0) = (-4)
                           ·rw [if_pos c72] at H
                            have c72b0 : (((rd_T52 x13_4 (t369.length : Int)).f0) == (-4)) = true:=beq_iff_eq.mpr c72
                            have c72b1 : (((rd_T52 x13_4 (t369.length : Int)).f0) != (-4)) = false:=bne_eq_false_iff_eq.mpr c72
                            clear c72
                            by_cases c73 : t400 = 0
                            ·rw [if_pos c73] at H
                             have c73b0 : (t400 == 0) = true:=beq_iff_eq.mpr c73
                             have c73b1 : (t400 != 0) = false:=bne_eq_false_iff_eq.mpr c73
                             clear c73
                             replace H:=Option.bind_eq_some_iff.mp H
                             obtain ⟨t409,A740,H⟩:=H
                             replace H : (some t409) = some r:=H
                             have A74:=Aside0.mk A740
                             clear A740
                             obtain rfl:=Option.some.inj H
                             obtain ⟨Ao75,co75,eo75⟩:=Kd.R_slice HO_12.out
                             subst eo75
                             have p407 : 0 ≤ ((t369.length : Int) : Int):=of_decide_eq_true (by first|(with_reducible assumption)|assumption)
                             have q407 : (t369.length : Int) < (x12_4.length : Int):=of_decide_eq_true (by first|(with_reducible assumption)|assumption)
                             obtain ⟨ad407,e407,hx407_0,hx407_1,hx407_2⟩:=at_T52 (Kd.R_reads' HO_12.out).2.2 (t369.length : Int) p407 q407
                             cases e407
                             (try simp only [Go.IntWalk.toNatUp] at hx407_0)
                             (try simp only [Go.IntWalk.toNatUp] at hx407_1)
                             (try simp only [Go.IntWalk.toNatUp] at hx407_2)
                             (try simp only [hl8_3] at p407)
                             (try simp only [hl8_3] at q407)
                             (try simp only [hl8_3] at hx407_0)
                             (try simp only [hl8_3] at hx407_1)
                             (try simp only [hl8_3] at hx407_2)
                             replace p407:=eq_true p407
                             replace q407:=eq_true q407
                             obtain ⟨Ao76,co76,eo76⟩:=Kd.R_slice HO_13.out
                             subst eo76
                             have p408 : 0 ≤ ((t369.length : Int) : Int):=of_decide_eq_true (by first|(with_reducible assumption)|assumption)
                             have q408 : (t369.length : Int) < (x13_4.length : Int):=of_decide_eq_true (by first|(with_reducible assumption)|assumption)
                             obtain ⟨ad408,e408,hx408_0,hx408_1,hx408_2⟩:=at_T52 (Kd.R_reads' HO_13.out).2.2 (t369.length : Int) p408 q408
                             cases e408
                             (try simp only [Go.IntWalk.toNatUp] at hx408_0)
                             (try simp only [Go.IntWalk.toNatUp] at hx408_1)
                             (try simp only [Go.IntWalk.toNatUp] at hx408_2)
                             (try simp only [hl8_3] at p408)
                             (try simp only [hl8_3] at q408)
                             (try simp only [hl8_3] at hx408_0)
                             (try simp only [hl8_3] at hx408_1)
                             (try simp only [hl8_3] at hx408_2)
                             replace p408:=eq_true p408
                             replace q408:=eq_true q408
                             obtain ⟨Ao77,co77,eo77⟩:=Kd.R_slice HO_15.out
                             subst eo77
                             go_wp2_with (first|(go_at_call 25;(with_reducible refine (cofferlaw05_equal.calls k6 _ _ t399 _ _ t369 t409 _ ?side1 ?side2 ?side3 ?side4 A74.out).mono ?_);(case side1 => repeat (first|exact (Kd.R_reads' HO_15.out).2.2|(with_reducible refine Kd.C_alloc ?_ _)|(with_reducible refine Kd.C_drewN ?_ _)|(with_reducible refine Kd.C_drew ?_)));(case side2 => exact (Kd.R_reads' HO_15.out).2.1);(case side3 => repeat (first|exact (Kd.R_reads' HO_3.out).2.2|(with_reducible refine Kd.C_alloc ?_ _)|(with_reducible refine Kd.C_drewN ?_ _)|(with_reducible refine Kd.C_drew ?_)));(case side4 => exact (Kd.R_reads' HO_3.out).2.1);rintro e w' ⟨rfl,⟨nd,rfl⟩⟩))
                             go_ret
                             exact ⟨by first|rfl|(simp [errW_none,errW_some] <;> rfl)|(simp [*,errW_none,errW_some] <;> rfl),by repeat (first|(with_reducible first|exact HB.out|apply below_alloc|apply pw_below_drewN|apply below_drew1)|exact HB.out)⟩
                            ·rw [if_neg c73] at H
                             exact absurd H (by simp)
                           ·rw [if_neg c72] at H
                            exact absurd H (by simp)
                          ·rw [if_neg c71] at H
                           exact absurd H (by simp)
                         ·rw [if_neg c70] at H
                          exact absurd H (by simp)
                        ·rw [if_neg c69] at H
                         exact absurd H (by simp)
                       ·rw [if_neg c68] at H
                        exact absurd H (by simp)
             ·rw [if_neg c41] at H
              exact absurd H (by simp)
            ·rw [if_neg c40] at H
             exact absurd H (by simp)
        ·replace c32:=Bool.eq_false_iff.mpr c32
         subst c32
         have H1 : (none) = some r:=by rw [if_neg (show ¬ (false = true) by decide)] at H;exact H
         clear H
         have H:=H1
         clear H1
         exact absurd H (by simp)
 ·replace c3:=Bool.eq_false_iff.mpr c3
  subst c3
  have H1 : (none) = some r:=by rw [if_neg (show ¬ (false = true) by decide)] at H;exact H
  clear H
  have H:=H1
  clear H1
  exact absurd H (by simp)

end Go.Proofs.Ytbohpjbcjnapfaa.X
