-- By a program of this session (wip/xprint.py over the kit's print).
import Derived.Test.YtffgodpmmipnkaaX0
import Derived.Test.YtffgodpmmipnkaaXA
import Derived.Test.YtffgodpmmipnkaaX32
import Derived.Test.YtffgodpmmipnkaaX35
import Derived.Test.YtffgodpmmipnkaaX36
import Derived.Test.YtffgodpmmipnkaaX40
import Derived.Test.YtffgodpmmipnkaaX42
import Derived.Test.YtffgodpmmipnkaaX46
import Derived.Test.YtffgodpmmipnkaaX53
import Derived.Test.YtffgodpmmipnkaaX54
namespace Go.Proofs.Ytffgodpmmipnkaa.X
open Go.RowKit Go.Proofs.YtffgodpmmipnkaaW.PrintWords Go.Proofs.YtffgodpmmipnkaaW.PrintLast Go.Proofs.YtffgodpmmipnkaaW.PrintMore
attribute [local go_sem] max2_int min2_int max_two min_two max_three min_three max_four min_four Go.Proofs.Ytffgodpmmipnkaa.Z.leq_string Go.Proofs.Ytffgodpmmipnkaa.Z.gtr_string Go.Proofs.Ytffgodpmmipnkaa.Z.geq_string   -- for this text's walks alone
set_option linter.unusedVariables false
set_option linter.unusedSimpArgs false

attribute [local go_sem high] eqA37
/-! ### cofferlaw10_PageKeeps: function 6 -/
mutual
def cofferlaw10_PageKeeps.j0 : Nat → ByteArray → List ByteArray → List (S37) → List (S37) → List (S37) → Bool → Option (Bool)
 | 0,_,_,_,_,_,_ => none
 | k + 1,x1,x3,x9,x10,x11,x81 => if x81 = true then (none) else ((page_Find.f k x9 x1).bind fun bt564 => (if (x10.length : Int) = (wrap64 ((x11.length : Int) + 1)) then (if bt564.2 = true then (if (x10.length : Int) = (x9.length : Int) then (cofferlaw10_PageKeeps.j1 k x1 x3 x9 x10 x11 false) else (cofferlaw10_PageKeeps.j1 k x1 x3 x9 x10 x11 true)) else ((cofferlaw10_same.f k x11 x9).bind fun t566 => (cofferlaw10_PageKeeps.j1 k x1 x3 x9 x10 x11 (!t566)))) else (cofferlaw10_PageKeeps.j1 k x1 x3 x9 x10 x11 true)))
def cofferlaw10_PageKeeps.j1 : Nat → ByteArray → List ByteArray → List (S37) → List (S37) → List (S37) → Bool → Option (Bool)
 | 0,_,_,_,_,_,_ => none
 | k + 1,x1,x3,x9,x10,x11,x113 => if x113 = true then (none) else (cofferlaw10_PageKeeps.l0 k x1 x3 x9 x10 x11 0)
def cofferlaw10_PageKeeps.l0 : Nat → ByteArray → List ByteArray → List (S37) → List (S37) → List (S37) → Int → Option (Bool)
 | 0,_,_,_,_,_,_ => none
 | k + 1,x1,x3,x9,x10,x11,x19 => if x19 < (x3.length : Int) then (if 0 ≤ x19 then (if (rdOf ByteArray.empty x3 x19).toList = x1.toList then (cofferlaw10_PageKeeps.l0 k x1 x3 x9 x10 x11 (wrap64 (x19 + 1))) else ((cofferlaw10_value1.f k x9 (rdOf ByteArray.empty x3 x19)).bind fun t569 => ((cofferlaw10_value1.f k x10 (rdOf ByteArray.empty x3 x19)).bind fun t571 => (if t569.toList = t571.toList then ((cofferlaw10_value1.f k x9 (rdOf ByteArray.empty x3 x19)).bind fun t573 => ((cofferlaw10_value1.f k x11 (rdOf ByteArray.empty x3 x19)).bind fun t575 => (if t573.toList = t575.toList then (cofferlaw10_PageKeeps.l0 k x1 x3 x9 x10 x11 (wrap64 (x19 + 1))) else (none)))) else (none))))) else (none)) else (cofferlaw10_PageKeeps.l1 k x1 x9 x10 x11 0)
def cofferlaw10_PageKeeps.l1 : Nat → ByteArray → List (S37) → List (S37) → List (S37) → Int → Option (Bool)
 | 0,_,_,_,_,_ => none
 | k + 1,x1,x9,x10,x11,x20 => if x20 < (x9.length : Int) then (if 0 ≤ x20 then (if ((rd_T37 x9 x20).f0).toList = x1.toList then (cofferlaw10_PageKeeps.l1 k x1 x9 x10 x11 (wrap64 (x20 + 1))) else ((cofferlaw10_value1.f k x10 ((rd_T37 x9 x20).f0)).bind fun t578 => (if 1 + ((rd_T37 x9 x20).f1).size ≤ 9223372036854775807 then (if t578.toList = ((⟨#[43]⟩ : ByteArray) ++ ((rd_T37 x9 x20).f1)).toList then ((cofferlaw10_value1.f k x11 ((rd_T37 x9 x20).f0)).bind fun t581 => (if t581.toList = ((⟨#[43]⟩ : ByteArray) ++ ((rd_T37 x9 x20).f1)).toList then (cofferlaw10_PageKeeps.l1 k x1 x9 x10 x11 (wrap64 (x20 + 1))) else (none))) else (none)) else (none)))) else (none)) else (some true)
end
def cofferlaw10_PageKeeps.f (k : Nat) (l0 : List (S37)) (a1 : ByteArray) (a2 : ByteArray) (l3 : List ByteArray) : Option (Bool):=(cofferlaw10_first.f k).bind fun t543 => (if t543 = true then ((cofferlaw10_Sorted.f k l0).bind fun t544 => ((page_Put.f k t544 a1 a2).bind fun t547 => ((page_Delete.f k t547 a1).bind fun bt550 => ((page_Delete.f k bt550.1 a1).bind fun bt554 => ((page_Find.f k t547 a1).bind fun bt558 => (if bt558.2 = true then (if 0 ≤ bt558.1 then (if bt558.1 < (t547.length : Int) then (if (!((((rd_T37 t547 bt558.1).f0).toList) == a1.toList) || (!((((rd_T37 t547 bt558.1).f1).toList) == a2.toList))) = true then (cofferlaw10_PageKeeps.j0 k a1 l3 t544 t547 bt550.1 true) else (if bt550.2 = true then (if bt554.2 = true then (cofferlaw10_PageKeeps.j0 k a1 l3 t544 t547 bt550.1 true) else ((cofferlaw10_same.f k bt550.1 bt554.1).bind fun t561 => (if t561 = true then ((cofferlaw10_rises.f k t547).bind fun t562 => (if t562 = true then ((cofferlaw10_rises.f k bt550.1).bind fun t563 => (cofferlaw10_PageKeeps.j0 k a1 l3 t544 t547 bt550.1 (!t563))) else (cofferlaw10_PageKeeps.j0 k a1 l3 t544 t547 bt550.1 true))) else (cofferlaw10_PageKeeps.j0 k a1 l3 t544 t547 bt550.1 true)))) else (cofferlaw10_PageKeeps.j0 k a1 l3 t544 t547 bt550.1 true))) else (none)) else (none)) else (cofferlaw10_PageKeeps.j0 k a1 l3 t544 t547 bt550.1 true))))))) else (none))
theorem cofferlaw10_PageKeeps.mono_l : ∀ k,(∀ y0 y1 y2 y3 y4 y5,LeO (cofferlaw10_PageKeeps.j0 k y0 y1 y2 y3 y4 y5) (cofferlaw10_PageKeeps.j0 (k + 1) y0 y1 y2 y3 y4 y5)) ∧ (∀ y0 y1 y2 y3 y4 y5,LeO (cofferlaw10_PageKeeps.j1 k y0 y1 y2 y3 y4 y5) (cofferlaw10_PageKeeps.j1 (k + 1) y0 y1 y2 y3 y4 y5)) ∧ (∀ y0 y1 y2 y3 y4 y5,LeO (cofferlaw10_PageKeeps.l0 k y0 y1 y2 y3 y4 y5) (cofferlaw10_PageKeeps.l0 (k + 1) y0 y1 y2 y3 y4 y5)) ∧ (∀ y0 y1 y2 y3 y4,LeO (cofferlaw10_PageKeeps.l1 k y0 y1 y2 y3 y4) (cofferlaw10_PageKeeps.l1 (k + 1) y0 y1 y2 y3 y4))
 | 0 => ⟨fun _ _ _ _ _ _ r h => by simp [cofferlaw10_PageKeeps.j0] at h,fun _ _ _ _ _ _ r h => by simp [cofferlaw10_PageKeeps.j1] at h,fun _ _ _ _ _ _ r h => by simp [cofferlaw10_PageKeeps.l0] at h,fun _ _ _ _ _ r h => by simp [cofferlaw10_PageKeeps.l1] at h⟩
 | k + 1 => by
  obtain ⟨ih0,ih1,ih2,ih3⟩:=cofferlaw10_PageKeeps.mono_l k
  refine ⟨?_,?_,?_,?_⟩
  ·intro y0 y1 y2 y3 y4 y5
   unfold cofferlaw10_PageKeeps.j0
   repeat' first
   | (with_reducible exact ih0 _ _ _ _ _ _)
   | (with_reducible exact ih1 _ _ _ _ _ _)
   | (with_reducible exact ih2 _ _ _ _ _ _)
   | (with_reducible exact ih3 _ _ _ _ _)
   | (with_reducible exact cofferlaw10_Sorted.mono _ _)
   | (with_reducible exact cofferlaw10_first.mono _)
   | (with_reducible exact cofferlaw10_rises.mono _ _)
   | (with_reducible exact cofferlaw10_same.mono _ _ _)
   | (with_reducible exact cofferlaw10_value1.mono _ _ _)
   | (with_reducible exact page_Delete.mono _ _ _)
   | (with_reducible exact page_Find.mono _ _ _)
   | (with_reducible exact page_Put.mono _ _ _ _)
   | (with_reducible exact LeO.refl _)
   | (with_reducible exact LeO.none _)
   | (with_reducible refine LeO.ite ?_ ?_)
   | (with_reducible refine LeO.bind ?_ (fun _ => ?_))
   | exact ih0 _ _ _ _ _ _
   | exact ih1 _ _ _ _ _ _
   | exact ih2 _ _ _ _ _ _
   | exact ih3 _ _ _ _ _
   | exact cofferlaw10_Sorted.mono _ _
   | exact cofferlaw10_first.mono _
   | exact cofferlaw10_rises.mono _ _
   | exact cofferlaw10_same.mono _ _ _
   | exact cofferlaw10_value1.mono _ _ _
   | exact page_Delete.mono _ _ _
   | exact page_Find.mono _ _ _
   | exact page_Put.mono _ _ _ _
   | exact LeO.none _
   | refine LeO.ite ?_ ?_
   | refine LeO.bind ?_ (fun _ => ?_)
  ·intro y0 y1 y2 y3 y4 y5
   unfold cofferlaw10_PageKeeps.j1
   repeat' first
   | (with_reducible exact ih0 _ _ _ _ _ _)
   | (with_reducible exact ih1 _ _ _ _ _ _)
   | (with_reducible exact ih2 _ _ _ _ _ _)
   | (with_reducible exact ih3 _ _ _ _ _)
   | (with_reducible exact cofferlaw10_Sorted.mono _ _)
   | (with_reducible exact cofferlaw10_first.mono _)
   | (with_reducible exact cofferlaw10_rises.mono _ _)
   | (with_reducible exact cofferlaw10_same.mono _ _ _)
   | (with_reducible exact cofferlaw10_value1.mono _ _ _)
   | (with_reducible exact page_Delete.mono _ _ _)
   | (with_reducible exact page_Find.mono _ _ _)
   | (with_reducible exact page_Put.mono _ _ _ _)
   | (with_reducible exact LeO.refl _)
   | (with_reducible exact LeO.none _)
   | (with_reducible refine LeO.ite ?_ ?_)
   | (with_reducible refine LeO.bind ?_ (fun _ => ?_))
   | exact ih0 _ _ _ _ _ _
   | exact ih1 _ _ _ _ _ _
   | exact ih2 _ _ _ _ _ _
   | exact ih3 _ _ _ _ _
   | exact cofferlaw10_Sorted.mono _ _
   | exact cofferlaw10_first.mono _
   | exact cofferlaw10_rises.mono _ _
   | exact cofferlaw10_same.mono _ _ _
   | exact cofferlaw10_value1.mono _ _ _
   | exact page_Delete.mono _ _ _
   | exact page_Find.mono _ _ _
   | exact page_Put.mono _ _ _ _
   | exact LeO.none _
   | refine LeO.ite ?_ ?_
   | refine LeO.bind ?_ (fun _ => ?_)
  ·intro y0 y1 y2 y3 y4 y5
   unfold cofferlaw10_PageKeeps.l0
   repeat' first
   | (with_reducible exact ih0 _ _ _ _ _ _)
   | (with_reducible exact ih1 _ _ _ _ _ _)
   | (with_reducible exact ih2 _ _ _ _ _ _)
   | (with_reducible exact ih3 _ _ _ _ _)
   | (with_reducible exact cofferlaw10_Sorted.mono _ _)
   | (with_reducible exact cofferlaw10_first.mono _)
   | (with_reducible exact cofferlaw10_rises.mono _ _)
   | (with_reducible exact cofferlaw10_same.mono _ _ _)
   | (with_reducible exact cofferlaw10_value1.mono _ _ _)
   | (with_reducible exact page_Delete.mono _ _ _)
   | (with_reducible exact page_Find.mono _ _ _)
   | (with_reducible exact page_Put.mono _ _ _ _)
   | (with_reducible exact LeO.refl _)
   | (with_reducible exact LeO.none _)
   | (with_reducible refine LeO.ite ?_ ?_)
   | (with_reducible refine LeO.bind ?_ (fun _ => ?_))
   | exact ih0 _ _ _ _ _ _
   | exact ih1 _ _ _ _ _ _
   | exact ih2 _ _ _ _ _ _
   | exact ih3 _ _ _ _ _
   | exact cofferlaw10_Sorted.mono _ _
   | exact cofferlaw10_first.mono _
   | exact cofferlaw10_rises.mono _ _
   | exact cofferlaw10_same.mono _ _ _
   | exact cofferlaw10_value1.mono _ _ _
   | exact page_Delete.mono _ _ _
   | exact page_Find.mono _ _ _
   | exact page_Put.mono _ _ _ _
   | exact LeO.none _
   | refine LeO.ite ?_ ?_
   | refine LeO.bind ?_ (fun _ => ?_)
  ·intro y0 y1 y2 y3 y4
   unfold cofferlaw10_PageKeeps.l1
   repeat' first
   | (with_reducible exact ih0 _ _ _ _ _ _)
   | (with_reducible exact ih1 _ _ _ _ _ _)
   | (with_reducible exact ih2 _ _ _ _ _ _)
   | (with_reducible exact ih3 _ _ _ _ _)
   | (with_reducible exact cofferlaw10_Sorted.mono _ _)
   | (with_reducible exact cofferlaw10_first.mono _)
   | (with_reducible exact cofferlaw10_rises.mono _ _)
   | (with_reducible exact cofferlaw10_same.mono _ _ _)
   | (with_reducible exact cofferlaw10_value1.mono _ _ _)
   | (with_reducible exact page_Delete.mono _ _ _)
   | (with_reducible exact page_Find.mono _ _ _)
   | (with_reducible exact page_Put.mono _ _ _ _)
   | (with_reducible exact LeO.refl _)
   | (with_reducible exact LeO.none _)
   | (with_reducible refine LeO.ite ?_ ?_)
   | (with_reducible refine LeO.bind ?_ (fun _ => ?_))
   | exact ih0 _ _ _ _ _ _
   | exact ih1 _ _ _ _ _ _
   | exact ih2 _ _ _ _ _ _
   | exact ih3 _ _ _ _ _
   | exact cofferlaw10_Sorted.mono _ _
   | exact cofferlaw10_first.mono _
   | exact cofferlaw10_rises.mono _ _
   | exact cofferlaw10_same.mono _ _ _
   | exact cofferlaw10_value1.mono _ _ _
   | exact page_Delete.mono _ _ _
   | exact page_Find.mono _ _ _
   | exact page_Put.mono _ _ _ _
   | exact LeO.none _
   | refine LeO.ite ?_ ?_
   | refine LeO.bind ?_ (fun _ => ?_)
theorem cofferlaw10_PageKeeps.mono : ∀ a0 a1 a2 a3 k,LeO (cofferlaw10_PageKeeps.f k a0 a1 a2 a3) (cofferlaw10_PageKeeps.f (k + 1) a0 a1 a2 a3):=by
 intro a0 a1 a2 a3 k
 obtain ⟨ih0,ih1,ih2,ih3⟩:=cofferlaw10_PageKeeps.mono_l k
 unfold cofferlaw10_PageKeeps.f
 repeat' first
  | (with_reducible exact ih0 _ _ _ _ _ _)
  | (with_reducible exact ih1 _ _ _ _ _ _)
  | (with_reducible exact ih2 _ _ _ _ _ _)
  | (with_reducible exact ih3 _ _ _ _ _)
  | (with_reducible exact cofferlaw10_Sorted.mono _ _)
  | (with_reducible exact cofferlaw10_first.mono _)
  | (with_reducible exact cofferlaw10_rises.mono _ _)
  | (with_reducible exact cofferlaw10_same.mono _ _ _)
  | (with_reducible exact cofferlaw10_value1.mono _ _ _)
  | (with_reducible exact page_Delete.mono _ _ _)
  | (with_reducible exact page_Find.mono _ _ _)
  | (with_reducible exact page_Put.mono _ _ _ _)
  | (with_reducible exact LeO.refl _)
  | (with_reducible exact LeO.none _)
  | (with_reducible refine LeO.ite ?_ ?_)
  | (with_reducible refine LeO.bind ?_ (fun _ => ?_))
  | exact ih0 _ _ _ _ _ _
  | exact ih1 _ _ _ _ _ _
  | exact ih2 _ _ _ _ _ _
  | exact ih3 _ _ _ _ _
  | exact cofferlaw10_Sorted.mono _ _
  | exact cofferlaw10_first.mono _
  | exact cofferlaw10_rises.mono _ _
  | exact cofferlaw10_same.mono _ _ _
  | exact cofferlaw10_value1.mono _ _ _
  | exact page_Delete.mono _ _ _
  | exact page_Find.mono _ _ _
  | exact page_Put.mono _ _ _ _
  | exact LeO.none _
  | refine LeO.ite ?_ ?_
  | refine LeO.bind ?_ (fun _ => ?_)
def cofferlaw10_PageKeeps.T16 : Bool × List (List Nat × List Nat):=(true,[([],[]),([],[]),([0,1],[0,1]),([2],[2]),([],[]),([3,4],[3,4]),([5],[5]),([6],[6]),([6],[6]),([6],[6]),([8,9,6],[6,8,9]),([10,6],[6,10]),([7,11,6,6],[6,7,11]),([6],[6]),([6],[6]),([6],[6]),([14,15,6],[6,14,15]),([16,6],[6,16]),([13,17,12,6],[6,13,17]),([12,18,6],[6,12,18]),([19,18,6],[6,19]),([20],[20]),([20],[20]),([20],[20]),([22,23,20],[20,22,23]),([24,20],[20,24]),([21,25,20,20],[20,21,25]),([20],[20]),([20],[20]),([20],[20]),([28,29,20],[20,28,29]),([30,20],[20,30]),([27,31,26,20],[20,27,31]),([26,32,20],[20,26,32]),([20,33,6],[6,20,33]),([6,34],[6,34])])
def cofferlaw10_PageKeeps.B16 : List Nat:=[0,0,3,7,0,31,63,127,127,127,895,1919,4095,127,127,127,49279,114815,262143,524287,1048575,2097151,2097151,2097151,14680063,31457279,67108863,2097151,2097151,2097151,807403519,1881145343,4294967295,8589934591,17179869183,34359738367]
theorem cofferlaw10_PageKeeps.tab16 : rtab .any (opsOf Try.f6 16) = cofferlaw10_PageKeeps.T16:=by kernel_rfl
theorem cofferlaw10_PageKeeps.bits16 : waitsOk cofferlaw10_PageKeeps.T16.2 cofferlaw10_PageKeeps.B16 = true:=by kernel_rfl
def cofferlaw10_PageKeeps.T21 : Bool × List (List Nat × List Nat):=(true,[([],[]),([],[]),([0,1],[0,1]),([2],[2]),([3],[3]),([],[]),([4,5],[4,5]),([6],[6]),([7],[7]),([7],[7]),([7],[7]),([9,10,7],[7,9,10]),([11,7],[7,11]),([12,7],[7,12]),([8,13,7,7],[7,8,13]),([7],[7]),([7],[7]),([15,16,7],[7,15,16]),([17,7],[7,17]),([18,7],[7,18]),([19,7],[7,19]),([14,20,7],[7,14,20]),([21,14,7],[7,21]),([22],[22]),([22],[22]),([22],[22]),([24,25,22],[22,24,25]),([26,22],[22,26]),([27,22],[22,27]),([23,28,22,22],[22,23,28]),([22],[22]),([22],[22]),([30,31,22],[22,30,31]),([32,22],[22,32]),([33,22],[22,33]),([34,22],[22,34]),([29,35,22],[22,29,35]),([22,36,7],[7,22,36]),([7,37],[7,37])])
def cofferlaw10_PageKeeps.B21 : List Nat:=[0,0,3,7,15,0,63,127,255,255,255,1791,3839,7935,16383,255,255,98559,229631,491775,1016063,2097151,4194303,8388607,8388607,8388607,58720255,125829119,260046847,536870911,8388607,8388607,3229614079,7524581375,16114515967,33294385151,68719476735,137438953471,274877906943]
theorem cofferlaw10_PageKeeps.tab21 : rtab .any (opsOf Try.f6 21) = cofferlaw10_PageKeeps.T21:=by kernel_rfl
theorem cofferlaw10_PageKeeps.bits21 : waitsOk cofferlaw10_PageKeeps.T21.2 cofferlaw10_PageKeeps.B21 = true:=by kernel_rfl
theorem cofferlaw10_PageKeeps.j0_true (k : Nat) (y0) (y1) (y2) (y3) (y4) : cofferlaw10_PageKeeps.j0 k y0 y1 y2 y3 y4 true = none:=by cases k <;> simp [cofferlaw10_PageKeeps.j0]
theorem cofferlaw10_PageKeeps.j1_true (k : Nat) (y0) (y1) (y2) (y3) (y4) : cofferlaw10_PageKeeps.j1 k y0 y1 y2 y3 y4 true = none:=by cases k <;> simp [cofferlaw10_PageKeeps.j1]
set_option maxHeartbeats 8000000 in
set_option maxRecDepth 100000 in
theorem cofferlaw10_PageKeeps.calls (k : Nat) (A0 : Option Addr) (c0 : Nat) (l0 : List (S37)) (a1 : ByteArray) (a2 : ByteArray) (A3 : Option Addr) (c3 : Nat) (l3 : List ByteArray) (r : Bool) (w : World) (hr0 : Kd.C k37 w A0 l0.length l0) (hc0 : l0.length ≤ c0) (hr3 : Kd.C Kd.string w A3 l3.length l3) (hc3 : l3.length ≤ c3) (h : cofferlaw10_PageKeeps.f k l0 a1 a2 l3 = some r) :
 Calls Try.prog 6 #[.slice A0 l0.length c0,.string a1,.string a2,.slice A3 l3.length c3] w fun e w' => e = .returned (.bool r) ∧ Below w.heap.size w w':=by
 have hu37:=Try.underlying37
 have HR0:=Aside0.mk hr0
 have HC0:=Aside0.mk hc0
 clear hr0 hc0
 have HR3:=Aside0.mk hr3
 have HC3:=Aside0.mk hc3
 clear hr3 hc3
 have HB:=Aside0.mk (Below.refl w.heap.size w)
 have H : ((cofferlaw10_first.f k).bind fun t543 => (if t543 = true then ((cofferlaw10_Sorted.f k l0).bind fun t544 => ((page_Put.f k t544 a1 a2).bind fun t547 => ((page_Delete.f k t547 a1).bind fun bt550 => ((page_Delete.f k bt550.1 a1).bind fun bt554 => ((page_Find.f k t547 a1).bind fun bt558 => (if bt558.2 = true then (if 0 ≤ bt558.1 then (if bt558.1 < (t547.length : Int) then (if (!((((rd_T37 t547 bt558.1).f0).toList) == a1.toList) || (!((((rd_T37 t547 bt558.1).f1).toList) == a2.toList))) = true then (cofferlaw10_PageKeeps.j0 k a1 l3 t544 t547 bt550.1 true) else (if bt550.2 = true then (if bt554.2 = true then (cofferlaw10_PageKeeps.j0 k a1 l3 t544 t547 bt550.1 true) else ((cofferlaw10_same.f k bt550.1 bt554.1).bind fun t561 => (if t561 = true then ((cofferlaw10_rises.f k t547).bind fun t562 => (if t562 = true then ((cofferlaw10_rises.f k bt550.1).bind fun t563 => (cofferlaw10_PageKeeps.j0 k a1 l3 t544 t547 bt550.1 (!t563))) else (cofferlaw10_PageKeeps.j0 k a1 l3 t544 t547 bt550.1 true))) else (cofferlaw10_PageKeeps.j0 k a1 l3 t544 t547 bt550.1 true)))) else (cofferlaw10_PageKeeps.j0 k a1 l3 t544 t547 bt550.1 true))) else (none)) else (none)) else (cofferlaw10_PageKeeps.j0 k a1 l3 t544 t547 bt550.1 true))))))) else (none))) = some r:=h
 clear h
 replace H:=Option.bind_eq_some_iff.mp H
 obtain ⟨t543,A50,H⟩:=H
 replace H : (if t543 = true then ((cofferlaw10_Sorted.f k l0).bind fun t544 => ((page_Put.f k t544 a1 a2).bind fun t547 => ((page_Delete.f k t547 a1).bind fun bt550 => ((page_Delete.f k bt550.1 a1).bind fun bt554 => ((page_Find.f k t547 a1).bind fun bt558 => (if bt558.2 = true then (if 0 ≤ bt558.1 then (if bt558.1 < (t547.length : Int) then (if (!((((rd_T37 t547 bt558.1).f0).toList) == a1.toList) || (!((((rd_T37 t547 bt558.1).f1).toList) == a2.toList))) = true then (cofferlaw10_PageKeeps.j0 k a1 l3 t544 t547 bt550.1 true) else (if bt550.2 = true then (if bt554.2 = true then (cofferlaw10_PageKeeps.j0 k a1 l3 t544 t547 bt550.1 true) else ((cofferlaw10_same.f k bt550.1 bt554.1).bind fun t561 => (if t561 = true then ((cofferlaw10_rises.f k t547).bind fun t562 => (if t562 = true then ((cofferlaw10_rises.f k bt550.1).bind fun t563 => (cofferlaw10_PageKeeps.j0 k a1 l3 t544 t547 bt550.1 (!t563))) else (cofferlaw10_PageKeeps.j0 k a1 l3 t544 t547 bt550.1 true))) else (cofferlaw10_PageKeeps.j0 k a1 l3 t544 t547 bt550.1 true)))) else (cofferlaw10_PageKeeps.j0 k a1 l3 t544 t547 bt550.1 true))) else (none)) else (none)) else (cofferlaw10_PageKeeps.j0 k a1 l3 t544 t547 bt550.1 true))))))) else (none)) = some r:=H
 have A5:=Aside0.mk A50
 clear A50
 by_cases c6 : t543 = true
 ·subst c6
  have H1 : ((cofferlaw10_Sorted.f k l0).bind fun t544 => ((page_Put.f k t544 a1 a2).bind fun t547 => ((page_Delete.f k t547 a1).bind fun bt550 => ((page_Delete.f k bt550.1 a1).bind fun bt554 => ((page_Find.f k t547 a1).bind fun bt558 => (if bt558.2 = true then (if 0 ≤ bt558.1 then (if bt558.1 < (t547.length : Int) then (if (!((((rd_T37 t547 bt558.1).f0).toList) == a1.toList) || (!((((rd_T37 t547 bt558.1).f1).toList) == a2.toList))) = true then (cofferlaw10_PageKeeps.j0 k a1 l3 t544 t547 bt550.1 true) else (if bt550.2 = true then (if bt554.2 = true then (cofferlaw10_PageKeeps.j0 k a1 l3 t544 t547 bt550.1 true) else ((cofferlaw10_same.f k bt550.1 bt554.1).bind fun t561 => (if t561 = true then ((cofferlaw10_rises.f k t547).bind fun t562 => (if t562 = true then ((cofferlaw10_rises.f k bt550.1).bind fun t563 => (cofferlaw10_PageKeeps.j0 k a1 l3 t544 t547 bt550.1 (!t563))) else (cofferlaw10_PageKeeps.j0 k a1 l3 t544 t547 bt550.1 true))) else (cofferlaw10_PageKeeps.j0 k a1 l3 t544 t547 bt550.1 true)))) else (cofferlaw10_PageKeeps.j0 k a1 l3 t544 t547 bt550.1 true))) else (none)) else (none)) else (cofferlaw10_PageKeeps.j0 k a1 l3 t544 t547 bt550.1 true))))))) = some r:=by rw [if_pos rfl] at H;exact H
  clear H
  have H:=H1
  clear H1
  replace H:=Option.bind_eq_some_iff.mp H
  obtain ⟨t544,A70,H⟩:=H
  replace H : ((page_Put.f k t544 a1 a2).bind fun t547 => ((page_Delete.f k t547 a1).bind fun bt550 => ((page_Delete.f k bt550.1 a1).bind fun bt554 => ((page_Find.f k t547 a1).bind fun bt558 => (if bt558.2 = true then (if 0 ≤ bt558.1 then (if bt558.1 < (t547.length : Int) then (if (!((((rd_T37 t547 bt558.1).f0).toList) == a1.toList) || (!((((rd_T37 t547 bt558.1).f1).toList) == a2.toList))) = true then (cofferlaw10_PageKeeps.j0 k a1 l3 t544 t547 bt550.1 true) else (if bt550.2 = true then (if bt554.2 = true then (cofferlaw10_PageKeeps.j0 k a1 l3 t544 t547 bt550.1 true) else ((cofferlaw10_same.f k bt550.1 bt554.1).bind fun t561 => (if t561 = true then ((cofferlaw10_rises.f k t547).bind fun t562 => (if t562 = true then ((cofferlaw10_rises.f k bt550.1).bind fun t563 => (cofferlaw10_PageKeeps.j0 k a1 l3 t544 t547 bt550.1 (!t563))) else (cofferlaw10_PageKeeps.j0 k a1 l3 t544 t547 bt550.1 true))) else (cofferlaw10_PageKeeps.j0 k a1 l3 t544 t547 bt550.1 true)))) else (cofferlaw10_PageKeeps.j0 k a1 l3 t544 t547 bt550.1 true))) else (none)) else (none)) else (cofferlaw10_PageKeeps.j0 k a1 l3 t544 t547 bt550.1 true)))))) = some r:=H
  have A7:=Aside0.mk A70
  clear A70
  replace H:=Option.bind_eq_some_iff.mp H
  obtain ⟨t547,A80,H⟩:=H
  replace H : ((page_Delete.f k t547 a1).bind fun bt550 => ((page_Delete.f k bt550.1 a1).bind fun bt554 => ((page_Find.f k t547 a1).bind fun bt558 => (if bt558.2 = true then (if 0 ≤ bt558.1 then (if bt558.1 < (t547.length : Int) then (if (!((((rd_T37 t547 bt558.1).f0).toList) == a1.toList) || (!((((rd_T37 t547 bt558.1).f1).toList) == a2.toList))) = true then (cofferlaw10_PageKeeps.j0 k a1 l3 t544 t547 bt550.1 true) else (if bt550.2 = true then (if bt554.2 = true then (cofferlaw10_PageKeeps.j0 k a1 l3 t544 t547 bt550.1 true) else ((cofferlaw10_same.f k bt550.1 bt554.1).bind fun t561 => (if t561 = true then ((cofferlaw10_rises.f k t547).bind fun t562 => (if t562 = true then ((cofferlaw10_rises.f k bt550.1).bind fun t563 => (cofferlaw10_PageKeeps.j0 k a1 l3 t544 t547 bt550.1 (!t563))) else (cofferlaw10_PageKeeps.j0 k a1 l3 t544 t547 bt550.1 true))) else (cofferlaw10_PageKeeps.j0 k a1 l3 t544 t547 bt550.1 true)))) else (cofferlaw10_PageKeeps.j0 k a1 l3 t544 t547 bt550.1 true))) else (none)) else (none)) else (cofferlaw10_PageKeeps.j0 k a1 l3 t544 t547 bt550.1 true))))) = some r:=H
  have A8:=Aside0.mk A80
  clear A80
  replace H:=Option.bind_eq_some_iff.mp H
  obtain ⟨⟨t550,t553⟩,A90,H⟩:=H
  replace H : ((page_Delete.f k t550 a1).bind fun bt554 => ((page_Find.f k t547 a1).bind fun bt558 => (if bt558.2 = true then (if 0 ≤ bt558.1 then (if bt558.1 < (t547.length : Int) then (if (!((((rd_T37 t547 bt558.1).f0).toList) == a1.toList) || (!((((rd_T37 t547 bt558.1).f1).toList) == a2.toList))) = true then (cofferlaw10_PageKeeps.j0 k a1 l3 t544 t547 t550 true) else (if t553 = true then (if bt554.2 = true then (cofferlaw10_PageKeeps.j0 k a1 l3 t544 t547 t550 true) else ((cofferlaw10_same.f k t550 bt554.1).bind fun t561 => (if t561 = true then ((cofferlaw10_rises.f k t547).bind fun t562 => (if t562 = true then ((cofferlaw10_rises.f k t550).bind fun t563 => (cofferlaw10_PageKeeps.j0 k a1 l3 t544 t547 t550 (!t563))) else (cofferlaw10_PageKeeps.j0 k a1 l3 t544 t547 t550 true))) else (cofferlaw10_PageKeeps.j0 k a1 l3 t544 t547 t550 true)))) else (cofferlaw10_PageKeeps.j0 k a1 l3 t544 t547 t550 true))) else (none)) else (none)) else (cofferlaw10_PageKeeps.j0 k a1 l3 t544 t547 t550 true)))) = some r:=H
  have A9:=Aside0.mk A90
  clear A90
  replace H:=Option.bind_eq_some_iff.mp H
  obtain ⟨⟨t554,t557⟩,A100,H⟩:=H
  replace H : ((page_Find.f k t547 a1).bind fun bt558 => (if bt558.2 = true then (if 0 ≤ bt558.1 then (if bt558.1 < (t547.length : Int) then (if (!((((rd_T37 t547 bt558.1).f0).toList) == a1.toList) || (!((((rd_T37 t547 bt558.1).f1).toList) == a2.toList))) = true then (cofferlaw10_PageKeeps.j0 k a1 l3 t544 t547 t550 true) else (if t553 = true then (if t557 = true then (cofferlaw10_PageKeeps.j0 k a1 l3 t544 t547 t550 true) else ((cofferlaw10_same.f k t550 t554).bind fun t561 => (if t561 = true then ((cofferlaw10_rises.f k t547).bind fun t562 => (if t562 = true then ((cofferlaw10_rises.f k t550).bind fun t563 => (cofferlaw10_PageKeeps.j0 k a1 l3 t544 t547 t550 (!t563))) else (cofferlaw10_PageKeeps.j0 k a1 l3 t544 t547 t550 true))) else (cofferlaw10_PageKeeps.j0 k a1 l3 t544 t547 t550 true)))) else (cofferlaw10_PageKeeps.j0 k a1 l3 t544 t547 t550 true))) else (none)) else (none)) else (cofferlaw10_PageKeeps.j0 k a1 l3 t544 t547 t550 true))) = some r:=H
  have A10:=Aside0.mk A100
  clear A100
  replace H:=Option.bind_eq_some_iff.mp H
  obtain ⟨⟨t558,t559⟩,A110,H⟩:=H
  replace H : (if t559 = true then (if 0 ≤ t558 then (if t558 < (t547.length : Int) then (if (!((((rd_T37 t547 t558).f0).toList) == a1.toList) || (!((((rd_T37 t547 t558).f1).toList) == a2.toList))) = true then (cofferlaw10_PageKeeps.j0 k a1 l3 t544 t547 t550 true) else (if t553 = true then (if t557 = true then (cofferlaw10_PageKeeps.j0 k a1 l3 t544 t547 t550 true) else ((cofferlaw10_same.f k t550 t554).bind fun t561 => (if t561 = true then ((cofferlaw10_rises.f k t547).bind fun t562 => (if t562 = true then ((cofferlaw10_rises.f k t550).bind fun t563 => (cofferlaw10_PageKeeps.j0 k a1 l3 t544 t547 t550 (!t563))) else (cofferlaw10_PageKeeps.j0 k a1 l3 t544 t547 t550 true))) else (cofferlaw10_PageKeeps.j0 k a1 l3 t544 t547 t550 true)))) else (cofferlaw10_PageKeeps.j0 k a1 l3 t544 t547 t550 true))) else (none)) else (none)) else (cofferlaw10_PageKeeps.j0 k a1 l3 t544 t547 t550 true)) = some r:=H
  have A11:=Aside0.mk A110
  clear A110
  have HC12:=Aside0.mk H
  clear H
  go_enter Try.func6,Try.ntmps6
  go_upto_region 8 with (first|((with_reducible refine gate_callee (f:=18) rfl ?_);refine goesL_ (some 21) rfl rfl Try.func18 (by kernel_rfl) rfl #[] rfl (by (try simp only [List.map_toArray,List.map_cons,List.map_nil]);first|done|rfl|(simp only [List.length_drop,List.length_take];rfl)) ?_;(with_reducible refine (cofferlaw10_first.calls k  true _ A5.out).mono ?_);rintro e w13 ⟨rfl,hb⟩;refine ⟨_,rfl,?_⟩;have n0_:=Aside0.mk (below_step (by repeat (first|(with_reducible first|exact HB.out|apply below_alloc|apply pw_below_drewN|apply below_drew1)|exact HB.out)) hb);clear HB;have HB:=n0_;clear n0_;(try clear hb);(try clear hb2);(try clear hk);(try clear hi))|((with_reducible refine gate_callee (f:=19) rfl ?_);refine goesL_ (some 24) rfl rfl Try.func19 (by kernel_rfl) rfl #[.slice A0 l0.length c0] rfl (by (try simp only [List.map_toArray,List.map_cons,List.map_nil]);first|done|rfl|(simp only [List.length_drop,List.length_take];rfl)) ?_;(with_reducible refine (cofferlaw10_Sorted.calls k _ _ l0 t544 _ ?side1 ?side2 A7.out).mono ?_);(case side1 => repeat (first|exact (Kd.C_below HR0.out HB.out)|(with_reducible refine Kd.C_alloc ?_ _)|(with_reducible refine Kd.C_drewN ?_ _)|(with_reducible refine Kd.C_drew ?_)));(case side2 => exact HC0.out);rintro e w14 ⟨v545,rfl,ho0,hb⟩;refine ⟨_,rfl,?_⟩;have n0_:=Aside0.mk (Kd.R_lower ho0 (below_size (by repeat (first|(with_reducible first|exact HB.out|apply below_alloc|apply pw_below_drewN|apply below_drew1)|exact HB.out))));have n1_:=Aside0.mk (below_step (by repeat (first|(with_reducible first|exact HB.out|apply below_alloc|apply pw_below_drewN|apply below_drew1)|exact HB.out)) hb);clear HB;have HO546:=n0_;have HB:=n1_;clear n0_ n1_;(try clear hb);(try clear hb2);(try clear hk);(try clear hi);(try clear ho0);obtain ⟨Ao15,co15,eo15⟩:=Kd.R_slice HO546.out;subst eo15)|((with_reducible refine gate_callee (f:=22) rfl ?_);refine goesL_ (some 28) rfl rfl Try.func22 (by kernel_rfl) rfl #[.slice Ao15 t544.length co15,.string a1,.string a2] rfl (by (try simp only [List.map_toArray,List.map_cons,List.map_nil]);first|done|rfl|(simp only [List.length_drop,List.length_take];rfl)) ?_;(with_reducible refine (page_Put.calls k _ _ t544 a1 a2 t547 _ ?side1 ?side2 A8.out).mono ?_);(case side1 => repeat (first|exact (Kd.R_reads' HO546.out).2.2|(with_reducible refine Kd.C_alloc ?_ _)|(with_reducible refine Kd.C_drewN ?_ _)|(with_reducible refine Kd.C_drew ?_)));(case side2 => exact (Kd.R_reads' HO546.out).2.1);rintro e w16 ⟨v548,rfl,ho0,hb⟩;refine ⟨_,rfl,?_⟩;have n0_:=Aside0.mk (Kd.R_elder' (by (with_reducible repeat (first|apply Kd.R_alloc|apply Kd.R_drewN|apply Kd.R_drew));exact HO546.out) (Kd.R_base ho0) hb);have n1_:=Aside0.mk (Kd.R_lower (Kd.R_new' ho0 (Kd.R_lt (by (with_reducible repeat (first|apply Kd.R_alloc|apply Kd.R_drewN|apply Kd.R_drew));exact HO546.out))) (below_size (by repeat (first|(with_reducible first|exact HB.out|apply below_alloc|apply pw_below_drewN|apply below_drew1)|exact HB.out))));have n2_:=Aside0.mk (below_step (by repeat (first|(with_reducible first|exact HB.out|apply below_alloc|apply pw_below_drewN|apply below_drew1)|exact HB.out)) hb);clear HO546;clear HB;have HO546:=n0_;have HO549:=n1_;have HB:=n2_;clear n0_ n1_ n2_;(try clear hb);(try clear hb2);(try clear hk);(try clear hi);(try clear ho0);obtain ⟨Ao17,co17,eo17⟩:=Kd.R_slice HO549.out;subst eo17)|((with_reducible refine gate_callee (f:=23) rfl ?_);refine goesL_ (some 32) rfl rfl Try.func23 (by kernel_rfl) rfl #[.slice Ao17 t547.length co17,.string a1] rfl (by (try simp only [List.map_toArray,List.map_cons,List.map_nil]);first|done|rfl|(simp only [List.length_drop,List.length_take];rfl)) ?_;(with_reducible refine (page_Delete.calls k (fun k_ => some k_ = (.slice Ao17 t547.length co17 : Value).ownBlock) _ _ t547 a1 t550 t553 _ ?side1 A9.out).mono ?_);(case side1 => exact Kd.R_V (Kd.R_tight rfl (HO549.out)));rintro e w18 ⟨v551,rfl,ho0,hb⟩;refine ⟨_,rfl,?_⟩;have n0_:=Aside0.mk (Kd.R_elder' (by (with_reducible repeat (first|apply Kd.R_alloc|apply Kd.R_drewN|apply Kd.R_drew));exact HO546.out) (Kd.R_base ho0) hb);have n1_:=Aside0.mk (Kd.R_elder' (by (with_reducible repeat (first|apply Kd.R_alloc|apply Kd.R_drewN|apply Kd.R_drew));exact HO549.out) (Kd.R_base ho0) hb);have n2_:=Aside0.mk (Kd.R_lower (Kd.R_new' (Kd.R_new' (Kd.R_mono (ok':=fun k_ => True) ho0 (fun _ hk_ => trivial)) (Kd.R_lt (by (with_reducible repeat (first|apply Kd.R_alloc|apply Kd.R_drewN|apply Kd.R_drew));exact HO546.out))) (Kd.R_lt (by (with_reducible repeat (first|apply Kd.R_alloc|apply Kd.R_drewN|apply Kd.R_drew));exact HO549.out))) (below_size (by repeat (first|(with_reducible first|exact HB.out|apply below_alloc|apply pw_below_drewN|apply below_drew1)|exact HB.out))));have n3_:=Aside0.mk (below_step (by repeat (first|(with_reducible first|exact HB.out|apply below_alloc|apply pw_below_drewN|apply below_drew1)|exact HB.out)) hb);clear HO546;clear HO549;clear HB;have HO546:=n0_;have HO549:=n1_;have HO552:=n2_;have HB:=n3_;clear n0_ n1_ n2_ n3_;(try clear hb);(try clear hb2);(try clear hk);(try clear hi);(try clear ho0);obtain ⟨Ao19,co19,eo19⟩:=Kd.R_slice HO552.out;subst eo19)|((with_reducible refine gate_callee (f:=23) rfl ?_);refine goesL_ (some 38) rfl rfl Try.func23 (by kernel_rfl) rfl #[.slice Ao19 t550.length co19,.string a1] rfl (by (try simp only [List.map_toArray,List.map_cons,List.map_nil]);first|done|rfl|(simp only [List.length_drop,List.length_take];rfl)) ?_;(with_reducible refine (page_Delete.calls k (fun k_ => some k_ = (.slice Ao19 t550.length co19 : Value).ownBlock) _ _ t550 a1 t554 t557 _ ?side1 A10.out).mono ?_);(case side1 => exact Kd.R_V (Kd.R_tight rfl (HO552.out)));rintro e w20 ⟨v555,rfl,ho0,hb⟩;refine ⟨_,rfl,?_⟩;have n0_:=Aside0.mk (Kd.R_elder' (by (with_reducible repeat (first|apply Kd.R_alloc|apply Kd.R_drewN|apply Kd.R_drew));exact HO546.out) (Kd.R_base ho0) hb);have n1_:=Aside0.mk (Kd.R_elder' (by (with_reducible repeat (first|apply Kd.R_alloc|apply Kd.R_drewN|apply Kd.R_drew));exact HO549.out) (Kd.R_base ho0) hb);have n2_:=Aside0.mk (Kd.R_elder' (by (with_reducible repeat (first|apply Kd.R_alloc|apply Kd.R_drewN|apply Kd.R_drew));exact HO552.out) (Kd.R_base ho0) hb);have n3_:=Aside0.mk (Kd.R_lower (Kd.R_new' (Kd.R_new' (Kd.R_new' (Kd.R_mono (ok':=fun k_ => True) ho0 (fun _ hk_ => trivial)) (Kd.R_lt (by (with_reducible repeat (first|apply Kd.R_alloc|apply Kd.R_drewN|apply Kd.R_drew));exact HO546.out))) (Kd.R_lt (by (with_reducible repeat (first|apply Kd.R_alloc|apply Kd.R_drewN|apply Kd.R_drew));exact HO549.out))) (Kd.R_lt (by (with_reducible repeat (first|apply Kd.R_alloc|apply Kd.R_drewN|apply Kd.R_drew));exact HO552.out))) (below_size (by repeat (first|(with_reducible first|exact HB.out|apply below_alloc|apply pw_below_drewN|apply below_drew1)|exact HB.out))));have n4_:=Aside0.mk (below_step (by repeat (first|(with_reducible first|exact HB.out|apply below_alloc|apply pw_below_drewN|apply below_drew1)|exact HB.out)) hb);clear HO546;clear HO549;clear HO552;clear HB;have HO546:=n0_;have HO549:=n1_;have HO552:=n2_;have HO556:=n3_;have HB:=n4_;clear n0_ n1_ n2_ n3_ n4_;(try clear hb);(try clear hb2);(try clear hk);(try clear hi);(try clear ho0))|((with_reducible refine gate_callee (f:=20) rfl ?_);refine goesL_ (some 44) rfl rfl Try.func20 (by kernel_rfl) rfl #[.slice Ao17 t547.length co17,.string a1] rfl (by (try simp only [List.map_toArray,List.map_cons,List.map_nil]);first|done|rfl|(simp only [List.length_drop,List.length_take];rfl)) ?_;(with_reducible refine (page_Find.calls k _ _ t547 a1 t558 t559 _ ?side1 ?side2 A11.out).mono ?_);(case side1 => repeat (first|exact (Kd.R_reads' HO549.out).2.2|(with_reducible refine Kd.C_alloc ?_ _)|(with_reducible refine Kd.C_drewN ?_ _)|(with_reducible refine Kd.C_drew ?_)));(case side2 => exact (Kd.R_reads' HO549.out).2.1);rintro e w21 ⟨rfl,hb⟩;refine ⟨_,rfl,?_⟩;have n0_:=Aside0.mk (Kd.R_below (by (with_reducible repeat (first|apply Kd.R_alloc|apply Kd.R_drewN|apply Kd.R_drew));exact HO546.out) hb);have n1_:=Aside0.mk (Kd.R_below (by (with_reducible repeat (first|apply Kd.R_alloc|apply Kd.R_drewN|apply Kd.R_drew));exact HO549.out) hb);have n2_:=Aside0.mk (Kd.R_below (by (with_reducible repeat (first|apply Kd.R_alloc|apply Kd.R_drewN|apply Kd.R_drew));exact HO552.out) hb);have n3_:=Aside0.mk (Kd.R_below (by (with_reducible repeat (first|apply Kd.R_alloc|apply Kd.R_drewN|apply Kd.R_drew));exact HO556.out) hb);have n4_:=Aside0.mk (below_step (by repeat (first|(with_reducible first|exact HB.out|apply below_alloc|apply pw_below_drewN|apply below_drew1)|exact HB.out)) hb);clear HO546;clear HO549;clear HO552;clear HO556;clear HB;have HO546:=n0_;have HO549:=n1_;have HO552:=n2_;have HO556:=n3_;have HB:=n4_;clear n0_ n1_ n2_ n3_ n4_;(try clear hb);(try clear hb2);(try clear hk);(try clear hi)))
  (try simp only [Act.put,List.setIfInBounds_toArray,List.set_cons_zero,List.set_cons_succ])
  go_cut [81] (fun v81 wc => ∃ (kq : Nat) (x81_11 : Bool),v81 = .bool x81_11 ∧ Aside0 (cofferlaw10_PageKeeps.j0 kq a1 l3 t544 t547 t550 x81_11 = some r) ∧ Aside0 (kq ≤ k) ∧ Aside0 (Kd.R k37 37 wc w.heap.size (fun k_ => some k_ ≠ ((.slice Ao17 t547.length co17) : Value).ownBlock ∧ some k_ ≠ ((.slice Ao19 t550.length co19) : Value).ownBlock) (.slice Ao15 t544.length co15) t544) ∧ Aside0 (Kd.R k37 37 wc w.heap.size (fun k_ => some k_ ≠ ((.slice Ao15 t544.length co15) : Value).ownBlock ∧ some k_ ≠ ((.slice Ao19 t550.length co19) : Value).ownBlock) (.slice Ao17 t547.length co17) t547) ∧ Aside0 (Kd.R k37 37 wc w.heap.size (fun k_ => some k_ ≠ ((.slice Ao15 t544.length co15) : Value).ownBlock ∧ some k_ ≠ ((.slice Ao17 t547.length co17) : Value).ownBlock) (.slice Ao19 t550.length co19) t550) ∧ Aside0 (Below w.heap.size w wc))
  case first =>
   have H:=HC12.out
   clear HC12
   by_cases c22 : t559 = true
   ·subst c22
    have H1 : (if 0 ≤ t558 then (if t558 < (t547.length : Int) then (if (!((((rd_T37 t547 t558).f0).toList) == a1.toList) || (!((((rd_T37 t547 t558).f1).toList) == a2.toList))) = true then (cofferlaw10_PageKeeps.j0 k a1 l3 t544 t547 t550 true) else (if t553 = true then (if t557 = true then (cofferlaw10_PageKeeps.j0 k a1 l3 t544 t547 t550 true) else ((cofferlaw10_same.f k t550 t554).bind fun t561 => (if t561 = true then ((cofferlaw10_rises.f k t547).bind fun t562 => (if t562 = true then ((cofferlaw10_rises.f k t550).bind fun t563 => (cofferlaw10_PageKeeps.j0 k a1 l3 t544 t547 t550 (!t563))) else (cofferlaw10_PageKeeps.j0 k a1 l3 t544 t547 t550 true))) else (cofferlaw10_PageKeeps.j0 k a1 l3 t544 t547 t550 true)))) else (cofferlaw10_PageKeeps.j0 k a1 l3 t544 t547 t550 true))) else (none)) else (none)) = some r:=by rw [if_pos rfl] at H;exact H
    clear H
    have H:=H1
    clear H1
    by_cases c23 : 0 ≤ t558
    ·rw [if_pos c23] at H
     have c23b0 : decide (0 ≤ t558) = true:=decide_eq_true c23
     clear c23
     (first|rw [c23b0]|(simp only [i64_w,i32_w];rw [c23b0])|rw [c23b1]|skip)
     by_cases c24 : t558 < (t547.length : Int)
     ·rw [if_pos c24] at H
      have c24b0 : decide (t558 < (t547.length : Int)) = true:=decide_eq_true c24
      clear c24
      by_cases c25 : (!((((rd_T37 t547 t558).f0).toList) == a1.toList) || (!((((rd_T37 t547 t558).f1).toList) == a2.toList))) = true
      ·rw [if_pos c25] at H
       have c25b0 : (!((((rd_T37 t547 t558).f0).toList) == a1.toList) || (!((((rd_T37 t547 t558).f1).toList) == a2.toList))) = true:=c25
       clear c25
       exact absurd H (by simp [cofferlaw10_PageKeeps.j0_true,cofferlaw10_PageKeeps.j1_true])
      ·rw [if_neg c25] at H
       have c25b0 : (!((((rd_T37 t547 t558).f0).toList) == a1.toList) || (!((((rd_T37 t547 t558).f1).toList) == a2.toList))) = false:=by simpa using c25
       clear c25
       by_cases c26 : t553 = true
       ·subst c26
        have H1 : (if t557 = true then (cofferlaw10_PageKeeps.j0 k a1 l3 t544 t547 t550 true) else ((cofferlaw10_same.f k t550 t554).bind fun t561 => (if t561 = true then ((cofferlaw10_rises.f k t547).bind fun t562 => (if t562 = true then ((cofferlaw10_rises.f k t550).bind fun t563 => (cofferlaw10_PageKeeps.j0 k a1 l3 t544 t547 t550 (!t563))) else (cofferlaw10_PageKeeps.j0 k a1 l3 t544 t547 t550 true))) else (cofferlaw10_PageKeeps.j0 k a1 l3 t544 t547 t550 true)))) = some r:=by rw [if_pos rfl] at H;exact H
        clear H
        have H:=H1
        clear H1
        by_cases c27 : t557 = true
        ·subst c27
         have H1 : (cofferlaw10_PageKeeps.j0 k a1 l3 t544 t547 t550 true) = some r:=by rw [if_pos rfl] at H;exact H
         clear H
         have H:=H1
         clear H1
         exact absurd H (by simp [cofferlaw10_PageKeeps.j0_true,cofferlaw10_PageKeeps.j1_true])
        ·replace c27:=Bool.eq_false_iff.mpr c27
         subst c27
         have H1 : ((cofferlaw10_same.f k t550 t554).bind fun t561 => (if t561 = true then ((cofferlaw10_rises.f k t547).bind fun t562 => (if t562 = true then ((cofferlaw10_rises.f k t550).bind fun t563 => (cofferlaw10_PageKeeps.j0 k a1 l3 t544 t547 t550 (!t563))) else (cofferlaw10_PageKeeps.j0 k a1 l3 t544 t547 t550 true))) else (cofferlaw10_PageKeeps.j0 k a1 l3 t544 t547 t550 true))) = some r:=by rw [if_neg (show ¬ (false = true) by decide)] at H;exact H
         clear H
         have H:=H1
         clear H1
         replace H:=Option.bind_eq_some_iff.mp H
         obtain ⟨t561,A280,H⟩:=H
         replace H : (if t561 = true then ((cofferlaw10_rises.f k t547).bind fun t562 => (if t562 = true then ((cofferlaw10_rises.f k t550).bind fun t563 => (cofferlaw10_PageKeeps.j0 k a1 l3 t544 t547 t550 (!t563))) else (cofferlaw10_PageKeeps.j0 k a1 l3 t544 t547 t550 true))) else (cofferlaw10_PageKeeps.j0 k a1 l3 t544 t547 t550 true)) = some r:=H
         have A28:=Aside0.mk A280
         clear A280
         by_cases c29 : t561 = true
         ·subst c29
          have H1 : ((cofferlaw10_rises.f k t547).bind fun t562 => (if t562 = true then ((cofferlaw10_rises.f k t550).bind fun t563 => (cofferlaw10_PageKeeps.j0 k a1 l3 t544 t547 t550 (!t563))) else (cofferlaw10_PageKeeps.j0 k a1 l3 t544 t547 t550 true))) = some r:=by rw [if_pos rfl] at H;exact H
          clear H
          have H:=H1
          clear H1
          replace H:=Option.bind_eq_some_iff.mp H
          obtain ⟨t562,A300,H⟩:=H
          replace H : (if t562 = true then ((cofferlaw10_rises.f k t550).bind fun t563 => (cofferlaw10_PageKeeps.j0 k a1 l3 t544 t547 t550 (!t563))) else (cofferlaw10_PageKeeps.j0 k a1 l3 t544 t547 t550 true)) = some r:=H
          have A30:=Aside0.mk A300
          clear A300
          by_cases c31 : t562 = true
          ·subst c31
           have H1 : ((cofferlaw10_rises.f k t550).bind fun t563 => (cofferlaw10_PageKeeps.j0 k a1 l3 t544 t547 t550 (!t563))) = some r:=by rw [if_pos rfl] at H;exact H
           clear H
           have H:=H1
           clear H1
           replace H:=Option.bind_eq_some_iff.mp H
           obtain ⟨t563,A320,H⟩:=H
           replace H : (cofferlaw10_PageKeeps.j0 k a1 l3 t544 t547 t550 (!t563)) = some r:=H
           have A32:=Aside0.mk A320
           clear A320
           have H':=Aside0.mk H
           clear H
           have p560 : 0 ≤ (t558 : Int):=of_decide_eq_true (by first|(with_reducible assumption)|assumption)
           have q560 : t558 < (t547.length : Int):=of_decide_eq_true (by first|(with_reducible assumption)|assumption)
           obtain ⟨ad560,e560,hx560_0,hx560_1⟩:=at_T37 (Kd.R_reads' HO549.out).2.2 t558 p560 q560
           cases e560
           replace p560:=eq_true p560
           replace q560:=eq_true q560
           obtain ⟨Ao33,co33,eo33⟩:=Kd.R_slice HO556.out
           subst eo33
           go_wp2_with (first|(go_at_call 15;(with_reducible refine (cofferlaw10_same.calls k _ _ t550 _ _ t554 true _ ?side1 ?side2 ?side3 ?side4 A28.out).mono ?_);(case side1 => repeat (first|exact (Kd.R_reads' HO552.out).2.2|(with_reducible refine Kd.C_alloc ?_ _)|(with_reducible refine Kd.C_drewN ?_ _)|(with_reducible refine Kd.C_drew ?_)));(case side2 => exact (Kd.R_reads' HO552.out).2.1);(case side3 => repeat (first|exact (Kd.R_reads' HO556.out).2.2|(with_reducible refine Kd.C_alloc ?_ _)|(with_reducible refine Kd.C_drewN ?_ _)|(with_reducible refine Kd.C_drew ?_)));(case side4 => exact (Kd.R_reads' HO556.out).2.1);rintro e w' ⟨rfl,⟨nd,rfl⟩⟩)|(go_at_call 29;(with_reducible refine (cofferlaw10_rises.calls k _ _ t547 true _ ?side1 ?side2 A30.out).mono ?_);(case side1 => repeat (first|exact (Kd.R_reads' HO549.out).2.2|(with_reducible refine Kd.C_alloc ?_ _)|(with_reducible refine Kd.C_drewN ?_ _)|(with_reducible refine Kd.C_drew ?_)));(case side2 => exact (Kd.R_reads' HO549.out).2.1);rintro e w' ⟨rfl,⟨nd,rfl⟩⟩)|(go_at_call 29;(with_reducible refine (cofferlaw10_rises.calls k _ _ t550 t563 _ ?side1 ?side2 A32.out).mono ?_);(case side1 => repeat (first|exact (Kd.R_reads' HO552.out).2.2|(with_reducible refine Kd.C_alloc ?_ _)|(with_reducible refine Kd.C_drewN ?_ _)|(with_reducible refine Kd.C_drew ?_)));(case side2 => exact (Kd.R_reads' HO552.out).2.1);rintro e w' ⟨rfl,⟨nd,rfl⟩⟩))
           go_meet
           case rel => exact ⟨_,(!t563),(by first|rfl|(simp;done)|(simp [Go.Proofs.Ytffgodpmmipnkaa.Z.bne_nil,Go.Proofs.Ytffgodpmmipnkaa.Z.beq_nil];done)|(simp [*];done)),H',⟨by first|omega|exact Nat.le_refl _⟩,⟨by (with_reducible repeat (first|apply Kd.R_alloc|apply Kd.R_drewN|apply Kd.R_drew));exact Kd.R_mono HO546.out (fun _ hk => ⟨hk.1.1.2,hk.1.2⟩)⟩,⟨by (with_reducible repeat (first|apply Kd.R_alloc|apply Kd.R_drewN|apply Kd.R_drew));exact Kd.R_mono HO549.out (fun _ hk => ⟨hk.1.1.2,hk.1.2⟩)⟩,⟨by (with_reducible repeat (first|apply Kd.R_alloc|apply Kd.R_drewN|apply Kd.R_drew));exact Kd.R_mono HO552.out (fun _ hk => ⟨hk.1.1.2,hk.1.2⟩)⟩,⟨by repeat (first|(with_reducible first|exact HB.out|apply below_alloc|apply pw_below_drewN|apply below_drew1)|exact HB.out)⟩⟩
          ·replace c31:=Bool.eq_false_iff.mpr c31
           subst c31
           have H1 : (cofferlaw10_PageKeeps.j0 k a1 l3 t544 t547 t550 true) = some r:=by rw [if_neg (show ¬ (false = true) by decide)] at H;exact H
           clear H
           have H:=H1
           clear H1
           exact absurd H (by simp [cofferlaw10_PageKeeps.j0_true,cofferlaw10_PageKeeps.j1_true])
         ·replace c29:=Bool.eq_false_iff.mpr c29
          subst c29
          have H1 : (cofferlaw10_PageKeeps.j0 k a1 l3 t544 t547 t550 true) = some r:=by rw [if_neg (show ¬ (false = true) by decide)] at H;exact H
          clear H
          have H:=H1
          clear H1
          exact absurd H (by simp [cofferlaw10_PageKeeps.j0_true,cofferlaw10_PageKeeps.j1_true])
       ·replace c26:=Bool.eq_false_iff.mpr c26
        subst c26
        have H1 : (cofferlaw10_PageKeeps.j0 k a1 l3 t544 t547 t550 true) = some r:=by rw [if_neg (show ¬ (false = true) by decide)] at H;exact H
        clear H
        have H:=H1
        clear H1
        exact absurd H (by simp [cofferlaw10_PageKeeps.j0_true,cofferlaw10_PageKeeps.j1_true])
     ·rw [if_neg c24] at H
      exact absurd H (by simp)
    ·rw [if_neg c23] at H
     exact absurd H (by simp)
   ·replace c22:=Bool.eq_false_iff.mpr c22
    subst c22
    have H1 : (cofferlaw10_PageKeeps.j0 k a1 l3 t544 t547 t550 true) = some r:=by rw [if_neg (show ¬ (false = true) by decide)] at H;exact H
    clear H
    have H:=H1
    clear H1
    exact absurd H (by simp [cofferlaw10_PageKeeps.j0_true,cofferlaw10_PageKeeps.j1_true])
  case rest =>
   clear HC12
   try clear c1
   try clear c2
   try clear p2
   try clear c3
   try clear p5
   try clear q5
   try clear hx5
   try clear c6
   try clear c18
   try clear c19
   try clear c20
   try clear c22
   try clear c23
   try clear c23b0
   try clear c23b1
   try clear c24
   try clear c24b0
   try clear c25
   try clear c25b0
   try clear c26
   try clear c27
   try clear c29
   try clear c31
   try clear hx560_0
   try clear hx560_1
   try clear p560
   try clear q560
   obtain ⟨kq,x81_11,rfl,HA,HJ11,HO_9,HO_10,HO_11,HB⟩:=hcut
   cases kq with
   | zero => exact absurd HA.out (by simp [cofferlaw10_PageKeeps.j0])
   | succ kj11 =>
    have H:=HA.out
    clear HA
    simp only [cofferlaw10_PageKeeps.j0] at H
    by_cases c36 : x81_11 = true
    ·subst c36
     have H1 : (none) = some r:=by rw [if_pos rfl] at H;exact H
     clear H
     have H:=H1
     clear H1
     exact absurd H (by simp)
    ·replace c36:=Bool.eq_false_iff.mpr c36
     subst c36
     have H1 : ((page_Find.f kj11 t544 a1).bind fun bt564 => (if (t547.length : Int) = (wrap64 ((t550.length : Int) + 1)) then (if bt564.2 = true then (if (t547.length : Int) = (t544.length : Int) then (cofferlaw10_PageKeeps.j1 kj11 a1 l3 t544 t547 t550 false) else (cofferlaw10_PageKeeps.j1 kj11 a1 l3 t544 t547 t550 true)) else ((cofferlaw10_same.f kj11 t550 t544).bind fun t566 => (cofferlaw10_PageKeeps.j1 kj11 a1 l3 t544 t547 t550 (!t566)))) else (cofferlaw10_PageKeeps.j1 kj11 a1 l3 t544 t547 t550 true))) = some r:=by rw [if_neg (show ¬ (false = true) by decide)] at H;exact H
     clear H
     have H:=H1
     clear H1
     replace H:=Option.bind_eq_some_iff.mp H
     obtain ⟨⟨t564,t565⟩,A370,H⟩:=H
     replace H : (if (t547.length : Int) = (wrap64 ((t550.length : Int) + 1)) then (if t565 = true then (if (t547.length : Int) = (t544.length : Int) then (cofferlaw10_PageKeeps.j1 kj11 a1 l3 t544 t547 t550 false) else (cofferlaw10_PageKeeps.j1 kj11 a1 l3 t544 t547 t550 true)) else ((cofferlaw10_same.f kj11 t550 t544).bind fun t566 => (cofferlaw10_PageKeeps.j1 kj11 a1 l3 t544 t547 t550 (!t566)))) else (cofferlaw10_PageKeeps.j1 kj11 a1 l3 t544 t547 t550 true)) = some r:=H
     have A37:=Aside0.mk A370
     clear A370
     have HC38:=Aside0.mk H
     clear H
     go_upto_region 11 with (first|((with_reducible refine gate_callee (f:=20) rfl ?_);refine goesL_ (some 85) rfl rfl Try.func20 (by kernel_rfl) rfl #[.slice Ao15 t544.length co15,.string a1] rfl (by (try simp only [List.map_toArray,List.map_cons,List.map_nil]);first|done|rfl|(simp only [List.length_drop,List.length_take];rfl)) ?_;(with_reducible refine (page_Find.calls kj11 _ _ t544 a1 t564 t565 _ ?side1 ?side2 A37.out).mono ?_);(case side1 => repeat (first|exact (Kd.R_reads' HO_9.out).2.2|(with_reducible refine Kd.C_alloc ?_ _)|(with_reducible refine Kd.C_drewN ?_ _)|(with_reducible refine Kd.C_drew ?_)));(case side2 => exact (Kd.R_reads' HO_9.out).2.1);rintro e w39 ⟨rfl,hb⟩;refine ⟨_,rfl,?_⟩;have n0_:=Aside0.mk (Kd.R_below (by (with_reducible repeat (first|apply Kd.R_alloc|apply Kd.R_drewN|apply Kd.R_drew));exact HO_9.out) hb);have n1_:=Aside0.mk (Kd.R_below (by (with_reducible repeat (first|apply Kd.R_alloc|apply Kd.R_drewN|apply Kd.R_drew));exact HO_10.out) hb);have n2_:=Aside0.mk (Kd.R_below (by (with_reducible repeat (first|apply Kd.R_alloc|apply Kd.R_drewN|apply Kd.R_drew));exact HO_11.out) hb);have n3_:=Aside0.mk (below_step (by repeat (first|(with_reducible first|exact HB.out|apply below_alloc|apply pw_below_drewN|apply below_drew1)|exact HB.out)) hb);clear HO_9;clear HO_10;clear HO_11;clear HB;have HO_9:=n0_;have HO_10:=n1_;have HO_11:=n2_;have HB:=n3_;clear n0_ n1_ n2_ n3_;(try clear hb);(try clear hb2);(try clear hk);(try clear hi)))
     (try simp only [Act.put,List.setIfInBounds_toArray,List.set_cons_zero,List.set_cons_succ])
     go_cut [113] (fun v113 wc => ∃ (kq : Nat) (x113_37 : Bool),v113 = .bool x113_37 ∧ Aside0 (cofferlaw10_PageKeeps.j1 kq a1 l3 t544 t547 t550 x113_37 = some r) ∧ Aside0 (kq ≤ kj11) ∧ Aside0 (Kd.R k37 37 wc w.heap.size (fun k_ => some k_ ≠ ((.slice Ao17 t547.length co17) : Value).ownBlock ∧ some k_ ≠ ((.slice Ao19 t550.length co19) : Value).ownBlock) (.slice Ao15 t544.length co15) t544) ∧ Aside0 (Kd.R k37 37 wc w.heap.size (fun k_ => some k_ ≠ ((.slice Ao15 t544.length co15) : Value).ownBlock ∧ some k_ ≠ ((.slice Ao19 t550.length co19) : Value).ownBlock) (.slice Ao17 t547.length co17) t547) ∧ Aside0 (Kd.R k37 37 wc w.heap.size (fun k_ => some k_ ≠ ((.slice Ao15 t544.length co15) : Value).ownBlock ∧ some k_ ≠ ((.slice Ao17 t547.length co17) : Value).ownBlock) (.slice Ao19 t550.length co19) t550) ∧ Aside0 (Below w.heap.size w wc))
     case first =>
      have H:=HC38.out
      clear HC38
      by_cases c40 : (t547.length : Int) = (wrap64 ((t550.length : Int) + 1))
      ·rw [if_pos c40] at H
       have c40b0 : ((t547.length : Int) == (wrap64 ((t550.length : Int) + 1))) = true:=beq_iff_eq.mpr c40
       have c40b1 : ((t547.length : Int) != (wrap64 ((t550.length : Int) + 1))) = false:=bne_eq_false_iff_eq.mpr c40
       clear c40
       (first|rw [c40b0]|(simp only [i64_w,i32_w];rw [c40b0])|rw [c40b1]|skip)
       by_cases c41 : t565 = true
       ·subst c41
        have H1 : (if (t547.length : Int) = (t544.length : Int) then (cofferlaw10_PageKeeps.j1 kj11 a1 l3 t544 t547 t550 false) else (cofferlaw10_PageKeeps.j1 kj11 a1 l3 t544 t547 t550 true)) = some r:=by rw [if_pos rfl] at H;exact H
        clear H
        have H:=H1
        clear H1
        by_cases c42 : (t547.length : Int) = (t544.length : Int)
        ·rw [if_pos c42] at H
         have c42b0 : ((t547.length : Int) == (t544.length : Int)) = true:=beq_iff_eq.mpr c42
         have c42b1 : ((t547.length : Int) != (t544.length : Int)) = false:=bne_eq_false_iff_eq.mpr c42
         have c42b2 : (t547.length == t544.length) = true:=by first|simpa using c42|(simp at c42 ⊢;omega)
         clear c42
         have H':=Aside0.mk H
         clear H
         go_wp2
         go_meet
         case rel => exact ⟨_,(false),(by first|rfl|(simp;done)|(simp [Go.Proofs.Ytffgodpmmipnkaa.Z.bne_nil,Go.Proofs.Ytffgodpmmipnkaa.Z.beq_nil];done)|(simp [*];done)),H',⟨by have:=HJ11.out;first|omega|exact Nat.le_refl _⟩,⟨by (with_reducible repeat (first|apply Kd.R_alloc|apply Kd.R_drewN|apply Kd.R_drew));exact HO_9.out⟩,⟨by (with_reducible repeat (first|apply Kd.R_alloc|apply Kd.R_drewN|apply Kd.R_drew));exact HO_10.out⟩,⟨by (with_reducible repeat (first|apply Kd.R_alloc|apply Kd.R_drewN|apply Kd.R_drew));exact HO_11.out⟩,⟨by repeat (first|(with_reducible first|exact HB.out|apply below_alloc|apply pw_below_drewN|apply below_drew1)|exact HB.out)⟩⟩
        ·rw [if_neg c42] at H
         have c42b0 : ((t547.length : Int) == (t544.length : Int)) = false:=beq_eq_false_iff_ne.mpr c42
         have c42b1 : ((t547.length : Int) != (t544.length : Int)) = true:=bne_iff_ne.mpr c42
         have c42b2 : (t547.length == t544.length) = false:=by first|simpa using c42|(simp at c42 ⊢;omega)
         exact absurd H (by simp [cofferlaw10_PageKeeps.j0_true,cofferlaw10_PageKeeps.j1_true])
       ·replace c41:=Bool.eq_false_iff.mpr c41
        subst c41
        have H1 : ((cofferlaw10_same.f kj11 t550 t544).bind fun t566 => (cofferlaw10_PageKeeps.j1 kj11 a1 l3 t544 t547 t550 (!t566))) = some r:=by rw [if_neg (show ¬ (false = true) by decide)] at H;exact H
        clear H
        have H:=H1
        clear H1
        replace H:=Option.bind_eq_some_iff.mp H
        obtain ⟨t566,A430,H⟩:=H
        replace H : (cofferlaw10_PageKeeps.j1 kj11 a1 l3 t544 t547 t550 (!t566)) = some r:=H
        have A43:=Aside0.mk A430
        clear A430
        have H':=Aside0.mk H
        clear H
        go_wp2_with (first|(go_at_call 15;(with_reducible refine (cofferlaw10_same.calls kj11 _ _ t550 _ _ t544 t566 _ ?side1 ?side2 ?side3 ?side4 A43.out).mono ?_);(case side1 => repeat (first|exact (Kd.R_reads' HO_11.out).2.2|(with_reducible refine Kd.C_alloc ?_ _)|(with_reducible refine Kd.C_drewN ?_ _)|(with_reducible refine Kd.C_drew ?_)));(case side2 => exact (Kd.R_reads' HO_11.out).2.1);(case side3 => repeat (first|exact (Kd.R_reads' HO_9.out).2.2|(with_reducible refine Kd.C_alloc ?_ _)|(with_reducible refine Kd.C_drewN ?_ _)|(with_reducible refine Kd.C_drew ?_)));(case side4 => exact (Kd.R_reads' HO_9.out).2.1);rintro e w' ⟨rfl,⟨nd,rfl⟩⟩))
        go_meet
        case rel => exact ⟨_,(!t566),(by first|rfl|(simp;done)|(simp [Go.Proofs.Ytffgodpmmipnkaa.Z.bne_nil,Go.Proofs.Ytffgodpmmipnkaa.Z.beq_nil];done)|(simp [*];done)),H',⟨by have:=HJ11.out;first|omega|exact Nat.le_refl _⟩,⟨by (with_reducible repeat (first|apply Kd.R_alloc|apply Kd.R_drewN|apply Kd.R_drew));exact HO_9.out⟩,⟨by (with_reducible repeat (first|apply Kd.R_alloc|apply Kd.R_drewN|apply Kd.R_drew));exact HO_10.out⟩,⟨by (with_reducible repeat (first|apply Kd.R_alloc|apply Kd.R_drewN|apply Kd.R_drew));exact HO_11.out⟩,⟨by repeat (first|(with_reducible first|exact HB.out|apply below_alloc|apply pw_below_drewN|apply below_drew1)|exact HB.out)⟩⟩
      ·rw [if_neg c40] at H
       have c40b0 : ((t547.length : Int) == (wrap64 ((t550.length : Int) + 1))) = false:=beq_eq_false_iff_ne.mpr c40
       have c40b1 : ((t547.length : Int) != (wrap64 ((t550.length : Int) + 1))) = true:=bne_iff_ne.mpr c40
       (first|rw [c40b0]|(simp only [i64_w,i32_w];rw [c40b0])|rw [c40b1]|skip)
       exact absurd H (by simp [cofferlaw10_PageKeeps.j0_true,cofferlaw10_PageKeeps.j1_true])
     case rest =>
      clear HC38
      try clear c1
      try clear c2
      try clear p2
      try clear c3
      try clear c4
      try clear p5
      try clear q5
      try clear hx5
      try clear c6
      try clear p6
      try clear c18
      try clear c19
      try clear c20
      try clear c22
      try clear c23
      try clear c23b0
      try clear c23b1
      try clear c24
      try clear c24b0
      try clear c25
      try clear c25b0
      try clear c26
      try clear c27
      try clear c29
      try clear c31
      try clear c36
      try clear c40
      try clear c40b0
      try clear c40b1
      try clear c41
      try clear c42
      try clear c42b0
      try clear c42b1
      try clear c42b2
      try clear hx560_0
      try clear hx560_1
      try clear p2
      try clear p5
      try clear p560
      try clear q5
      try clear q560
      obtain ⟨kq,x113_37,rfl,HA,HJ37,HO_9,HO_10,HO_11,HB⟩:=hcut
      cases kq with
      | zero => exact absurd HA.out (by simp [cofferlaw10_PageKeeps.j1])
      | succ kj37 =>
       have H:=HA.out
       clear HA
       simp only [cofferlaw10_PageKeeps.j1] at H
       by_cases c44 : x113_37 = true
       ·subst c44
        have H1 : (none) = some r:=by rw [if_pos rfl] at H;exact H
        clear H
        have H:=H1
        clear H1
        exact absurd H (by simp)
       ·replace c44:=Bool.eq_false_iff.mpr c44
        subst c44
        have H1 : (cofferlaw10_PageKeeps.l0 kj37 a1 l3 t544 t547 t550 0) = some r:=by rw [if_neg (show ¬ (false = true) by decide)] at H;exact H
        clear H
        have H:=H1
        clear H1
        have H':=Aside0.mk H
        clear H
        go_wp2
        go_loopg [19] kj37 (fun kq v19 w' => ∃ (x19_3 : Int),v19 = .int .i64 x19_3 ∧ Aside0 (cofferlaw10_PageKeeps.l0 kq a1 l3 t544 t547 t550 x19_3 = some r) ∧ Aside0 (kq ≤ kj37) ∧ Aside0 (Kd.R k37 37 w' w.heap.size (fun k_ => some k_ ≠ ((.slice Ao17 t547.length co17) : Value).ownBlock ∧ some k_ ≠ ((.slice Ao19 t550.length co19) : Value).ownBlock) (.slice Ao15 t544.length co15) t544) ∧ Aside0 (Kd.R k37 37 w' w.heap.size (fun k_ => some k_ ≠ ((.slice Ao15 t544.length co15) : Value).ownBlock ∧ some k_ ≠ ((.slice Ao19 t550.length co19) : Value).ownBlock) (.slice Ao17 t547.length co17) t547) ∧ Aside0 (Kd.R k37 37 w' w.heap.size (fun k_ => some k_ ≠ ((.slice Ao15 t544.length co15) : Value).ownBlock ∧ some k_ ≠ ((.slice Ao17 t547.length co17) : Value).ownBlock) (.slice Ao19 t550.length co19) t550) ∧ Aside0 (Below w.heap.size w w'))
        case atStart => exact ⟨(0),(by first|rfl|(simp;done)|(simp [Go.Proofs.Ytffgodpmmipnkaa.Z.bne_nil,Go.Proofs.Ytffgodpmmipnkaa.Z.beq_nil];done)|(simp [*];done)),H',⟨Nat.le_refl _⟩,⟨by (with_reducible repeat (first|apply Kd.R_alloc|apply Kd.R_drewN|apply Kd.R_drew));exact HO_9.out⟩,⟨by (with_reducible repeat (first|apply Kd.R_alloc|apply Kd.R_drewN|apply Kd.R_drew));exact HO_10.out⟩,⟨by (with_reducible repeat (first|apply Kd.R_alloc|apply Kd.R_drewN|apply Kd.R_drew));exact HO_11.out⟩,⟨by repeat (first|(with_reducible first|exact HB.out|apply below_alloc|apply pw_below_drewN|apply below_drew1)|exact HB.out)⟩⟩
        case round =>
         clear H'
         try clear c1
         try clear c2
         try clear p2
         try clear c3
         try clear c4
         try clear p5
         try clear q5
         try clear hx5
         try clear c6
         try clear p6
         try clear c18
         try clear c19
         try clear c20
         try clear c22
         try clear c23
         try clear c23b0
         try clear c23b1
         try clear c24
         try clear c24b0
         try clear c25
         try clear c25b0
         try clear c26
         try clear c27
         try clear c29
         try clear c31
         try clear c36
         try clear c40
         try clear c40b0
         try clear c40b1
         try clear c41
         try clear c42
         try clear c42b0
         try clear c42b1
         try clear c42b2
         try clear c44
         try clear hx560_0
         try clear hx560_1
         try clear p2
         try clear p5
         try clear p560
         try clear p6
         try clear q5
         try clear q560
         obtain ⟨x19_3,rfl,HA,HK3,HO_9,HO_10,HO_11,HB⟩:=hrel
         cases gk with
         | zero => exact absurd HA.out (by simp [cofferlaw10_PageKeeps.l0])
         | succ k3 =>
          have H:=HA.out
          clear HA
          simp only [cofferlaw10_PageKeeps.l0] at H
          by_cases c45 : x19_3 < (l3.length : Int)
          ·rw [if_pos c45] at H
           have c45b0 : decide (x19_3 < (l3.length : Int)) = true:=decide_eq_true c45
           clear c45
           by_cases c46 : 0 ≤ x19_3
           ·rw [if_pos c46] at H
            have c46b0 : decide (0 ≤ x19_3) = true:=decide_eq_true c46
            clear c46
            by_cases c47 : (rdOf ByteArray.empty l3 x19_3).toList = a1.toList
            ·rw [if_pos c47] at H
             have c47b0 : ((rdOf ByteArray.empty l3 x19_3).toList == a1.toList) = true:=beq_iff_eq.mpr c47
             have c47b1 : ((rdOf ByteArray.empty l3 x19_3).toList != a1.toList) = false:=bne_eq_false_iff_eq.mpr c47
             clear c47
             have H':=Aside0.mk H
             clear H
             try go_wp2
             have n0_:=Aside0.mk (Kd.R_drew HO_9.out)
             have n1_:=Aside0.mk (Kd.R_drew HO_10.out)
             have n2_:=Aside0.mk (Kd.R_drew HO_11.out)
             have n3_:=Aside0.mk (below_drew1 HB.out)
             clear HO_9
             clear HO_10
             clear HO_11
             clear HB
             have HO_9:=n0_
             have HO_10:=n1_
             have HO_11:=n2_
             have HB:=n3_
             clear n0_ n1_ n2_ n3_
             have p567 : 0 ≤ (x19_3 : Int):=of_decide_eq_true (by first|(with_reducible assumption)|assumption)
             have q567 : x19_3 < (l3.length : Int):=of_decide_eq_true (by first|(with_reducible assumption)|assumption)
             obtain ⟨ad567,e567,hx567_0⟩:=Kd.at_string HR3.out x19_3 p567 q567
             have hw567_0:=hx567_0
             cases e567
             replace hx567_0:=(HB.out.cell (World.block_lt_of_cell? w _ hx567_0)).trans hx567_0
             replace p567:=eq_true p567
             replace q567:=eq_true q567
             refine start_ (n:=36) (S:=fun w' => w'.cell? (ad567.add (x19_3).toNat) = some (.string (rdOf ByteArray.empty l3 x19_3))) (ds:=[]) #[false,false,false,false,false,false,false,false,false,false,false,false,false,false,false,false,false,false,false,false,false,false,false,false,false,false,false,false,false,false,false,false,false,false,false,false] (by kernel_rfl) rfl rfl (((HB.out.cell (World.block_lt_of_cell? w _ hw567_0)).trans hw567_0)) (fun hHeld => ?_);refine with_tabW cofferlaw10_PageKeeps.tab16 cofferlaw10_PageKeeps.bits16 (fun HT_ HW_ => ?_)
             generalize wr.drew = w48 at HO_9 HO_10 HO_11 HB hx567_0 hHeld ⊢
             refine pure_ (i:=0) (N:=some 120) (v:=?_) (a':=?_) #[true,false,false,false,false,false,false,false,false,false,false,false,false,false,false,false,false,false,false,false,false,false,false,false,false,false,false,false,false,false,false,false,false,false,false,false] rfl rfl (any_of HT_.out (by kernel_rfl)) (fun _ _ _ h => h) (Or.inl ⟨by rfl,?_⟩) ?_ ?_
             rotate_left
             ·intro w'
              go_simp
              with_reducible rfl
             rotate_left
             ·simp only [Act.put,List.setIfInBounds_toArray,List.set_cons_zero,List.set_cons_succ,i64_w,i32_w]
              rfl
             refine pure_ (i:=1) (N:=some 121) (v:=?_) (a':=?_) #[true,true,false,false,false,false,false,false,false,false,false,false,false,false,false,false,false,false,false,false,false,false,false,false,false,false,false,false,false,false,false,false,false,false,false,false] rfl rfl (any_of HT_.out (by kernel_rfl)) (fun _ _ _ h => h) (Or.inl ⟨by rfl,?_⟩) ?_ ?_
             rotate_left
             ·intro w'
              go_simp
              with_reducible rfl
             rotate_left
             ·simp only [Act.put,List.setIfInBounds_toArray,List.set_cons_zero,List.set_cons_succ,i64_w,i32_w]
              rfl
             refine pure_ (i:=2) (N:=some 122) (v:=?_) (a':=?_) #[true,true,true,false,false,false,false,false,false,false,false,false,false,false,false,false,false,false,false,false,false,false,false,false,false,false,false,false,false,false,false,false,false,false,false,false] rfl rfl (any_of HT_.out (by kernel_rfl)) (fun _ _ _ h => h) (Or.inl ⟨by rfl,?_⟩) ?_ ?_
             rotate_left
             ·intro w'
              go_simp
              with_reducible rfl
             rotate_left
             ·simp only [Act.put,List.setIfInBounds_toArray,List.set_cons_zero,List.set_cons_succ,i64_w,i32_w]
              rfl
             refine pure_ (i:=4) (N:=some 124) (v:=?_) (a':=?_) #[true,true,true,false,true,false,false,false,false,false,false,false,false,false,false,false,false,false,false,false,false,false,false,false,false,false,false,false,false,false,false,false,false,false,false,false] rfl rfl (any_of HT_.out (by kernel_rfl)) (fun _ _ _ h => h) (Or.inl ⟨by rfl,?_⟩) ?_ ?_
             rotate_left
             ·intro w'
              go_simp
              with_reducible rfl
             rotate_left
             ·simp only [Act.put,List.setIfInBounds_toArray,List.set_cons_zero,List.set_cons_succ,i64_w,i32_w]
              rfl
             refine take_ (i:=3) (N:=some 123) (v:=?_) (a':=?_) #[true,true,true,true,true,false,false,false,false,false,false,false,false,false,false,false,false,false,false,false,false,false,false,false,false,false,false,false,false,false,false,false,false,false,false,false] rfl rfl (take_ofW HT_.out HW_.out (by kernel_rfl)) (fun _ _ _ h => h) (Or.inl ⟨by rfl,?_⟩) hHeld ?_ ?_
             rotate_left
             ·intro w' s0
              go_simp
              with_reducible rfl
             rotate_left
             ·simp only [Act.put,List.setIfInBounds_toArray,List.set_cons_zero,List.set_cons_succ,i64_w,i32_w]
              rfl
             refine pure_ (i:=5) (N:=some 125) (v:=?_) (a':=?_) #[true,true,true,true,true,true,false,false,false,false,false,false,false,false,false,false,false,false,false,false,false,false,false,false,false,false,false,false,false,false,false,false,false,false,false,false] rfl rfl (any_of HT_.out (by kernel_rfl)) (fun _ _ _ h => h) (Or.inl ⟨by rfl,?_⟩) ?_ ?_
             rotate_left
             ·intro w'
              go_simp
              with_reducible rfl
             rotate_left
             ·simp only [Act.put,List.setIfInBounds_toArray,List.set_cons_zero,List.set_cons_succ,i64_w,i32_w]
              rfl
             refine pure_ (i:=6) (N:=some 126) (v:=?_) (a':=?_) #[true,true,true,true,true,true,true,false,false,false,false,false,false,false,false,false,false,false,false,false,false,false,false,false,false,false,false,false,false,false,false,false,false,false,false,false] rfl rfl (any_of HT_.out (by kernel_rfl)) (fun _ _ _ h => h) (Or.inl ⟨by rfl,?_⟩) ?_ ?_
             rotate_left
             ·intro w'
              go_simp
              with_reducible rfl
             rotate_left
             ·simp only [Act.put,List.setIfInBounds_toArray,List.set_cons_zero,List.set_cons_succ,i64_w,i32_w]
              rfl
             refine pure_ (i:=7) (N:=some 127) (v:=undef) (a':=?_) #[true,true,true,true,true,true,true,true,false,false,false,false,false,false,false,false,false,false,false,false,false,false,false,false,false,false,false,false,false,false,false,false,false,false,false,false] rfl rfl (any_of HT_.out (by kernel_rfl)) (fun _ _ _ h => h) (Or.inr ⟨by rfl,rfl⟩) ?_ ?_
             rotate_left
             ·simp only [Act.put,List.setIfInBounds_toArray,List.set_cons_zero,List.set_cons_succ,i64_w,i32_w]
              rfl
             refine pure_ (i:=8) (N:=some 128) (v:=undef) (a':=?_) #[true,true,true,true,true,true,true,true,true,false,false,false,false,false,false,false,false,false,false,false,false,false,false,false,false,false,false,false,false,false,false,false,false,false,false,false] rfl rfl (any_of HT_.out (by kernel_rfl)) (fun _ _ _ h => h) (Or.inr ⟨by rfl,rfl⟩) ?_ ?_
             rotate_left
             ·simp only [Act.put,List.setIfInBounds_toArray,List.set_cons_zero,List.set_cons_succ,i64_w,i32_w]
              rfl
             refine pure_ (i:=9) (N:=some 129) (v:=undef) (a':=?_) #[true,true,true,true,true,true,true,true,true,true,false,false,false,false,false,false,false,false,false,false,false,false,false,false,false,false,false,false,false,false,false,false,false,false,false,false] rfl rfl (any_of HT_.out (by kernel_rfl)) (fun _ _ _ h => h) (Or.inr ⟨by rfl,rfl⟩) ?_ ?_
             rotate_left
             ·simp only [Act.put,List.setIfInBounds_toArray,List.set_cons_zero,List.set_cons_succ,i64_w,i32_w]
              rfl
             refine pure_ (i:=10) (N:=some 130) (v:=undef) (a':=?_) #[true,true,true,true,true,true,true,true,true,true,true,false,false,false,false,false,false,false,false,false,false,false,false,false,false,false,false,false,false,false,false,false,false,false,false,false] rfl rfl (any_of HT_.out (by kernel_rfl)) (fun _ _ _ h => h) (Or.inr ⟨by rfl,rfl⟩) ?_ ?_
             rotate_left
             ·simp only [Act.put,List.setIfInBounds_toArray,List.set_cons_zero,List.set_cons_succ,i64_w,i32_w]
              rfl
             refine pure_ (i:=11) (N:=some 131) (v:=undef) (a':=?_) #[true,true,true,true,true,true,true,true,true,true,true,true,false,false,false,false,false,false,false,false,false,false,false,false,false,false,false,false,false,false,false,false,false,false,false,false] rfl rfl (any_of HT_.out (by kernel_rfl)) (fun _ _ _ h => h) (Or.inr ⟨by rfl,rfl⟩) ?_ ?_
             rotate_left
             ·simp only [Act.put,List.setIfInBounds_toArray,List.set_cons_zero,List.set_cons_succ,i64_w,i32_w]
              rfl
             refine pure_ (i:=12) (N:=some 132) (v:=undef) (a':=?_) #[true,true,true,true,true,true,true,true,true,true,true,true,true,false,false,false,false,false,false,false,false,false,false,false,false,false,false,false,false,false,false,false,false,false,false,false] rfl rfl (any_of HT_.out (by kernel_rfl)) (fun _ _ _ h => h) (Or.inr ⟨by rfl,rfl⟩) ?_ ?_
             rotate_left
             ·simp only [Act.put,List.setIfInBounds_toArray,List.set_cons_zero,List.set_cons_succ,i64_w,i32_w]
              rfl
             refine pure_ (i:=13) (N:=some 133) (v:=undef) (a':=?_) #[true,true,true,true,true,true,true,true,true,true,true,true,true,true,false,false,false,false,false,false,false,false,false,false,false,false,false,false,false,false,false,false,false,false,false,false] rfl rfl (any_of HT_.out (by kernel_rfl)) (fun _ _ _ h => h) (Or.inr ⟨by rfl,rfl⟩) ?_ ?_
             rotate_left
             ·simp only [Act.put,List.setIfInBounds_toArray,List.set_cons_zero,List.set_cons_succ,i64_w,i32_w]
              rfl
             refine pure_ (i:=14) (N:=some 134) (v:=undef) (a':=?_) #[true,true,true,true,true,true,true,true,true,true,true,true,true,true,true,false,false,false,false,false,false,false,false,false,false,false,false,false,false,false,false,false,false,false,false,false] rfl rfl (any_of HT_.out (by kernel_rfl)) (fun _ _ _ h => h) (Or.inr ⟨by rfl,rfl⟩) ?_ ?_
             rotate_left
             ·simp only [Act.put,List.setIfInBounds_toArray,List.set_cons_zero,List.set_cons_succ,i64_w,i32_w]
              rfl
             refine pure_ (i:=15) (N:=some 135) (v:=undef) (a':=?_) #[true,true,true,true,true,true,true,true,true,true,true,true,true,true,true,true,false,false,false,false,false,false,false,false,false,false,false,false,false,false,false,false,false,false,false,false] rfl rfl (any_of HT_.out (by kernel_rfl)) (fun _ _ _ h => h) (Or.inr ⟨by rfl,rfl⟩) ?_ ?_
             rotate_left
             ·simp only [Act.put,List.setIfInBounds_toArray,List.set_cons_zero,List.set_cons_succ,i64_w,i32_w]
              rfl
             refine pure_ (i:=16) (N:=some 136) (v:=undef) (a':=?_) #[true,true,true,true,true,true,true,true,true,true,true,true,true,true,true,true,true,false,false,false,false,false,false,false,false,false,false,false,false,false,false,false,false,false,false,false] rfl rfl (any_of HT_.out (by kernel_rfl)) (fun _ _ _ h => h) (Or.inr ⟨by rfl,rfl⟩) ?_ ?_
             rotate_left
             ·simp only [Act.put,List.setIfInBounds_toArray,List.set_cons_zero,List.set_cons_succ,i64_w,i32_w]
              rfl
             refine pure_ (i:=17) (N:=some 137) (v:=undef) (a':=?_) #[true,true,true,true,true,true,true,true,true,true,true,true,true,true,true,true,true,true,false,false,false,false,false,false,false,false,false,false,false,false,false,false,false,false,false,false] rfl rfl (any_of HT_.out (by kernel_rfl)) (fun _ _ _ h => h) (Or.inr ⟨by rfl,rfl⟩) ?_ ?_
             rotate_left
             ·simp only [Act.put,List.setIfInBounds_toArray,List.set_cons_zero,List.set_cons_succ,i64_w,i32_w]
              rfl
             refine pure_ (i:=18) (N:=some 138) (v:=undef) (a':=?_) #[true,true,true,true,true,true,true,true,true,true,true,true,true,true,true,true,true,true,true,false,false,false,false,false,false,false,false,false,false,false,false,false,false,false,false,false] rfl rfl (any_of HT_.out (by kernel_rfl)) (fun _ _ _ h => h) (Or.inr ⟨by rfl,rfl⟩) ?_ ?_
             rotate_left
             ·simp only [Act.put,List.setIfInBounds_toArray,List.set_cons_zero,List.set_cons_succ,i64_w,i32_w]
              rfl
             refine pure_ (i:=19) (N:=some 139) (v:=undef) (a':=?_) #[true,true,true,true,true,true,true,true,true,true,true,true,true,true,true,true,true,true,true,true,false,false,false,false,false,false,false,false,false,false,false,false,false,false,false,false] rfl rfl (any_of HT_.out (by kernel_rfl)) (fun _ _ _ h => h) (Or.inr ⟨by rfl,rfl⟩) ?_ ?_
             rotate_left
             ·simp only [Act.put,List.setIfInBounds_toArray,List.set_cons_zero,List.set_cons_succ,i64_w,i32_w]
              rfl
             refine pure_ (i:=20) (N:=some 140) (v:=undef) (a':=?_) #[true,true,true,true,true,true,true,true,true,true,true,true,true,true,true,true,true,true,true,true,true,false,false,false,false,false,false,false,false,false,false,false,false,false,false,false] rfl rfl (any_of HT_.out (by kernel_rfl)) (fun _ _ _ h => h) (Or.inr ⟨by rfl,rfl⟩) ?_ ?_
             rotate_left
             ·simp only [Act.put,List.setIfInBounds_toArray,List.set_cons_zero,List.set_cons_succ,i64_w,i32_w]
              rfl
             refine pure_ (i:=21) (N:=some 141) (v:=undef) (a':=?_) #[true,true,true,true,true,true,true,true,true,true,true,true,true,true,true,true,true,true,true,true,true,true,false,false,false,false,false,false,false,false,false,false,false,false,false,false] rfl rfl (any_of HT_.out (by kernel_rfl)) (fun _ _ _ h => h) (Or.inr ⟨by rfl,rfl⟩) ?_ ?_
             rotate_left
             ·simp only [Act.put,List.setIfInBounds_toArray,List.set_cons_zero,List.set_cons_succ,i64_w,i32_w]
              rfl
             refine pure_ (i:=22) (N:=some 142) (v:=undef) (a':=?_) #[true,true,true,true,true,true,true,true,true,true,true,true,true,true,true,true,true,true,true,true,true,true,true,false,false,false,false,false,false,false,false,false,false,false,false,false] rfl rfl (any_of HT_.out (by kernel_rfl)) (fun _ _ _ h => h) (Or.inr ⟨by rfl,rfl⟩) ?_ ?_
             rotate_left
             ·simp only [Act.put,List.setIfInBounds_toArray,List.set_cons_zero,List.set_cons_succ,i64_w,i32_w]
              rfl
             refine pure_ (i:=23) (N:=some 143) (v:=undef) (a':=?_) #[true,true,true,true,true,true,true,true,true,true,true,true,true,true,true,true,true,true,true,true,true,true,true,true,false,false,false,false,false,false,false,false,false,false,false,false] rfl rfl (any_of HT_.out (by kernel_rfl)) (fun _ _ _ h => h) (Or.inr ⟨by rfl,rfl⟩) ?_ ?_
             rotate_left
             ·simp only [Act.put,List.setIfInBounds_toArray,List.set_cons_zero,List.set_cons_succ,i64_w,i32_w]
              rfl
             refine pure_ (i:=24) (N:=some 144) (v:=undef) (a':=?_) #[true,true,true,true,true,true,true,true,true,true,true,true,true,true,true,true,true,true,true,true,true,true,true,true,true,false,false,false,false,false,false,false,false,false,false,false] rfl rfl (any_of HT_.out (by kernel_rfl)) (fun _ _ _ h => h) (Or.inr ⟨by rfl,rfl⟩) ?_ ?_
             rotate_left
             ·simp only [Act.put,List.setIfInBounds_toArray,List.set_cons_zero,List.set_cons_succ,i64_w,i32_w]
              rfl
             refine pure_ (i:=25) (N:=some 145) (v:=undef) (a':=?_) #[true,true,true,true,true,true,true,true,true,true,true,true,true,true,true,true,true,true,true,true,true,true,true,true,true,true,false,false,false,false,false,false,false,false,false,false] rfl rfl (any_of HT_.out (by kernel_rfl)) (fun _ _ _ h => h) (Or.inr ⟨by rfl,rfl⟩) ?_ ?_
             rotate_left
             ·simp only [Act.put,List.setIfInBounds_toArray,List.set_cons_zero,List.set_cons_succ,i64_w,i32_w]
              rfl
             refine pure_ (i:=26) (N:=some 146) (v:=undef) (a':=?_) #[true,true,true,true,true,true,true,true,true,true,true,true,true,true,true,true,true,true,true,true,true,true,true,true,true,true,true,false,false,false,false,false,false,false,false,false] rfl rfl (any_of HT_.out (by kernel_rfl)) (fun _ _ _ h => h) (Or.inr ⟨by rfl,rfl⟩) ?_ ?_
             rotate_left
             ·simp only [Act.put,List.setIfInBounds_toArray,List.set_cons_zero,List.set_cons_succ,i64_w,i32_w]
              rfl
             refine pure_ (i:=27) (N:=some 147) (v:=undef) (a':=?_) #[true,true,true,true,true,true,true,true,true,true,true,true,true,true,true,true,true,true,true,true,true,true,true,true,true,true,true,true,false,false,false,false,false,false,false,false] rfl rfl (any_of HT_.out (by kernel_rfl)) (fun _ _ _ h => h) (Or.inr ⟨by rfl,rfl⟩) ?_ ?_
             rotate_left
             ·simp only [Act.put,List.setIfInBounds_toArray,List.set_cons_zero,List.set_cons_succ,i64_w,i32_w]
              rfl
             refine pure_ (i:=28) (N:=some 148) (v:=undef) (a':=?_) #[true,true,true,true,true,true,true,true,true,true,true,true,true,true,true,true,true,true,true,true,true,true,true,true,true,true,true,true,true,false,false,false,false,false,false,false] rfl rfl (any_of HT_.out (by kernel_rfl)) (fun _ _ _ h => h) (Or.inr ⟨by rfl,rfl⟩) ?_ ?_
             rotate_left
             ·simp only [Act.put,List.setIfInBounds_toArray,List.set_cons_zero,List.set_cons_succ,i64_w,i32_w]
              rfl
             refine pure_ (i:=29) (N:=some 149) (v:=undef) (a':=?_) #[true,true,true,true,true,true,true,true,true,true,true,true,true,true,true,true,true,true,true,true,true,true,true,true,true,true,true,true,true,true,false,false,false,false,false,false] rfl rfl (any_of HT_.out (by kernel_rfl)) (fun _ _ _ h => h) (Or.inr ⟨by rfl,rfl⟩) ?_ ?_
             rotate_left
             ·simp only [Act.put,List.setIfInBounds_toArray,List.set_cons_zero,List.set_cons_succ,i64_w,i32_w]
              rfl
             refine pure_ (i:=30) (N:=some 150) (v:=undef) (a':=?_) #[true,true,true,true,true,true,true,true,true,true,true,true,true,true,true,true,true,true,true,true,true,true,true,true,true,true,true,true,true,true,true,false,false,false,false,false] rfl rfl (any_of HT_.out (by kernel_rfl)) (fun _ _ _ h => h) (Or.inr ⟨by rfl,rfl⟩) ?_ ?_
             rotate_left
             ·simp only [Act.put,List.setIfInBounds_toArray,List.set_cons_zero,List.set_cons_succ,i64_w,i32_w]
              rfl
             refine pure_ (i:=31) (N:=some 151) (v:=undef) (a':=?_) #[true,true,true,true,true,true,true,true,true,true,true,true,true,true,true,true,true,true,true,true,true,true,true,true,true,true,true,true,true,true,true,true,false,false,false,false] rfl rfl (any_of HT_.out (by kernel_rfl)) (fun _ _ _ h => h) (Or.inr ⟨by rfl,rfl⟩) ?_ ?_
             rotate_left
             ·simp only [Act.put,List.setIfInBounds_toArray,List.set_cons_zero,List.set_cons_succ,i64_w,i32_w]
              rfl
             refine pure_ (i:=32) (N:=some 152) (v:=undef) (a':=?_) #[true,true,true,true,true,true,true,true,true,true,true,true,true,true,true,true,true,true,true,true,true,true,true,true,true,true,true,true,true,true,true,true,true,false,false,false] rfl rfl (any_of HT_.out (by kernel_rfl)) (fun _ _ _ h => h) (Or.inr ⟨by rfl,rfl⟩) ?_ ?_
             rotate_left
             ·simp only [Act.put,List.setIfInBounds_toArray,List.set_cons_zero,List.set_cons_succ,i64_w,i32_w]
              rfl
             refine pure_ (i:=33) (N:=some 153) (v:=undef) (a':=?_) #[true,true,true,true,true,true,true,true,true,true,true,true,true,true,true,true,true,true,true,true,true,true,true,true,true,true,true,true,true,true,true,true,true,true,false,false] rfl rfl (any_of HT_.out (by kernel_rfl)) (fun _ _ _ h => h) (Or.inr ⟨by rfl,rfl⟩) ?_ ?_
             rotate_left
             ·simp only [Act.put,List.setIfInBounds_toArray,List.set_cons_zero,List.set_cons_succ,i64_w,i32_w]
              rfl
             refine pure_ (i:=34) (N:=some 154) (v:=undef) (a':=?_) #[true,true,true,true,true,true,true,true,true,true,true,true,true,true,true,true,true,true,true,true,true,true,true,true,true,true,true,true,true,true,true,true,true,true,true,false] rfl rfl (any_of HT_.out (by kernel_rfl)) (fun _ _ _ h => h) (Or.inr ⟨by rfl,rfl⟩) ?_ ?_
             rotate_left
             ·simp only [Act.put,List.setIfInBounds_toArray,List.set_cons_zero,List.set_cons_succ,i64_w,i32_w]
              rfl
             refine pure_ (i:=35) (N:=some 155) (v:=?_) (a':=?_) #[true,true,true,true,true,true,true,true,true,true,true,true,true,true,true,true,true,true,true,true,true,true,true,true,true,true,true,true,true,true,true,true,true,true,true,true] rfl rfl (any_of HT_.out (by kernel_rfl)) (fun _ _ _ h => h) (Or.inl ⟨by rfl,?_⟩) ?_ ?_
             rotate_left
             ·intro w'
              go_simp
              with_reducible rfl
             rotate_left
             ·simp only [Act.put,List.setIfInBounds_toArray,List.set_cons_zero,List.set_cons_succ,i64_w,i32_w]
              rfl
             refine done_ (done_of HT_.out (by kernel_rfl)) ?_
             try go_wp2
             go_roundg k3
             case measure => have:=HJ11.out;have:=HJ37.out;have:=HK3.out;omega
             case rel => exact ⟨(wrap64 (x19_3 + 1)),(by first|rfl|(simp;done)|(simp [Go.Proofs.Ytffgodpmmipnkaa.Z.bne_nil,Go.Proofs.Ytffgodpmmipnkaa.Z.beq_nil];done)|(simp [*];done)),H',⟨by have:=HJ11.out;have:=HJ37.out;have:=HK3.out;omega⟩,⟨by (with_reducible repeat (first|apply Kd.R_alloc|apply Kd.R_drewN|apply Kd.R_drew));exact HO_9.out⟩,⟨by (with_reducible repeat (first|apply Kd.R_alloc|apply Kd.R_drewN|apply Kd.R_drew));exact HO_10.out⟩,⟨by (with_reducible repeat (first|apply Kd.R_alloc|apply Kd.R_drewN|apply Kd.R_drew));exact HO_11.out⟩,⟨by repeat (first|(with_reducible first|exact HB.out|apply below_alloc|apply pw_below_drewN|apply below_drew1)|exact HB.out)⟩⟩
            ·rw [if_neg c47] at H
             have c47b0 : ((rdOf ByteArray.empty l3 x19_3).toList == a1.toList) = false:=beq_eq_false_iff_ne.mpr c47
             have c47b1 : ((rdOf ByteArray.empty l3 x19_3).toList != a1.toList) = true:=bne_iff_ne.mpr c47
             replace H:=Option.bind_eq_some_iff.mp H
             obtain ⟨t569,A490,H⟩:=H
             replace H : ((cofferlaw10_value1.f k3 t547 (rdOf ByteArray.empty l3 x19_3)).bind fun t571 => (if t569.toList = t571.toList then ((cofferlaw10_value1.f k3 t544 (rdOf ByteArray.empty l3 x19_3)).bind fun t573 => ((cofferlaw10_value1.f k3 t550 (rdOf ByteArray.empty l3 x19_3)).bind fun t575 => (if t573.toList = t575.toList then (cofferlaw10_PageKeeps.l0 k3 a1 l3 t544 t547 t550 (wrap64 (x19_3 + 1))) else (none)))) else (none))) = some r:=H
             have A49:=Aside0.mk A490
             clear A490
             replace H:=Option.bind_eq_some_iff.mp H
             obtain ⟨t571,A500,H⟩:=H
             replace H : (if t569.toList = t571.toList then ((cofferlaw10_value1.f k3 t544 (rdOf ByteArray.empty l3 x19_3)).bind fun t573 => ((cofferlaw10_value1.f k3 t550 (rdOf ByteArray.empty l3 x19_3)).bind fun t575 => (if t573.toList = t575.toList then (cofferlaw10_PageKeeps.l0 k3 a1 l3 t544 t547 t550 (wrap64 (x19_3 + 1))) else (none)))) else (none)) = some r:=H
             have A50:=Aside0.mk A500
             clear A500
             by_cases c51 : t569.toList = t571.toList
             ·rw [if_pos c51] at H
              have c51b0 : (t569.toList == t571.toList) = true:=beq_iff_eq.mpr c51
              have c51b1 : (t569.toList != t571.toList) = false:=bne_eq_false_iff_eq.mpr c51
              clear c51
              replace H:=Option.bind_eq_some_iff.mp H
              obtain ⟨t573,A520,H⟩:=H
              replace H : ((cofferlaw10_value1.f k3 t550 (rdOf ByteArray.empty l3 x19_3)).bind fun t575 => (if t573.toList = t575.toList then (cofferlaw10_PageKeeps.l0 k3 a1 l3 t544 t547 t550 (wrap64 (x19_3 + 1))) else (none))) = some r:=H
              have A52:=Aside0.mk A520
              clear A520
              replace H:=Option.bind_eq_some_iff.mp H
              obtain ⟨t575,A530,H⟩:=H
              replace H : (if t573.toList = t575.toList then (cofferlaw10_PageKeeps.l0 k3 a1 l3 t544 t547 t550 (wrap64 (x19_3 + 1))) else (none)) = some r:=H
              have A53:=Aside0.mk A530
              clear A530
              by_cases c54 : t573.toList = t575.toList
              ·rw [if_pos c54] at H
               have c54b0 : (t573.toList == t575.toList) = true:=beq_iff_eq.mpr c54
               have c54b1 : (t573.toList != t575.toList) = false:=bne_eq_false_iff_eq.mpr c54
               clear c54
               have H':=Aside0.mk H
               clear H
               try go_wp2
               have n0_:=Aside0.mk (Kd.R_drew HO_9.out)
               have n1_:=Aside0.mk (Kd.R_drew HO_10.out)
               have n2_:=Aside0.mk (Kd.R_drew HO_11.out)
               have n3_:=Aside0.mk (below_drew1 HB.out)
               clear HO_9
               clear HO_10
               clear HO_11
               clear HB
               have HO_9:=n0_
               have HO_10:=n1_
               have HO_11:=n2_
               have HB:=n3_
               clear n0_ n1_ n2_ n3_
               have p567 : 0 ≤ (x19_3 : Int):=of_decide_eq_true (by first|(with_reducible assumption)|assumption)
               have q567 : x19_3 < (l3.length : Int):=of_decide_eq_true (by first|(with_reducible assumption)|assumption)
               obtain ⟨ad567,e567,hx567_0⟩:=Kd.at_string HR3.out x19_3 p567 q567
               have hw567_0:=hx567_0
               cases e567
               replace hx567_0:=(HB.out.cell (World.block_lt_of_cell? w _ hx567_0)).trans hx567_0
               replace p567:=eq_true p567
               replace q567:=eq_true q567
               have p568 : 0 ≤ (x19_3 : Int):=of_decide_eq_true (by first|(with_reducible assumption)|assumption)
               have q568 : x19_3 < (l3.length : Int):=of_decide_eq_true (by first|(with_reducible assumption)|assumption)
               obtain ⟨ad568,e568,hx568_0⟩:=Kd.at_string HR3.out x19_3 p568 q568
               have hw568_0:=hx568_0
               obtain rfl : ad567 = ad568:=(by injection e568)
               replace hx568_0:=(HB.out.cell (World.block_lt_of_cell? w _ hx568_0)).trans hx568_0
               replace p568:=eq_true p568
               replace q568:=eq_true q568
               have p570 : 0 ≤ (x19_3 : Int):=of_decide_eq_true (by first|(with_reducible assumption)|assumption)
               have q570 : x19_3 < (l3.length : Int):=of_decide_eq_true (by first|(with_reducible assumption)|assumption)
               obtain ⟨ad570,e570,hx570_0⟩:=Kd.at_string HR3.out x19_3 p570 q570
               have hw570_0:=hx570_0
               obtain rfl : ad567 = ad570:=(by injection e570)
               replace hx570_0:=(HB.out.cell (World.block_lt_of_cell? w _ hx570_0)).trans hx570_0
               replace p570:=eq_true p570
               replace q570:=eq_true q570
               have p572 : 0 ≤ (x19_3 : Int):=of_decide_eq_true (by first|(with_reducible assumption)|assumption)
               have q572 : x19_3 < (l3.length : Int):=of_decide_eq_true (by first|(with_reducible assumption)|assumption)
               obtain ⟨ad572,e572,hx572_0⟩:=Kd.at_string HR3.out x19_3 p572 q572
               have hw572_0:=hx572_0
               obtain rfl : ad567 = ad572:=(by injection e572)
               replace hx572_0:=(HB.out.cell (World.block_lt_of_cell? w _ hx572_0)).trans hx572_0
               replace p572:=eq_true p572
               replace q572:=eq_true q572
               have p574 : 0 ≤ (x19_3 : Int):=of_decide_eq_true (by first|(with_reducible assumption)|assumption)
               have q574 : x19_3 < (l3.length : Int):=of_decide_eq_true (by first|(with_reducible assumption)|assumption)
               obtain ⟨ad574,e574,hx574_0⟩:=Kd.at_string HR3.out x19_3 p574 q574
               have hw574_0:=hx574_0
               obtain rfl : ad567 = ad574:=(by injection e574)
               replace hx574_0:=(HB.out.cell (World.block_lt_of_cell? w _ hx574_0)).trans hx574_0
               replace p574:=eq_true p574
               replace q574:=eq_true q574
               refine start_ (n:=36) (S:=fun w' => w'.cell? (ad567.add (x19_3).toNat) = some (.string (rdOf ByteArray.empty l3 x19_3)) ∧ w'.cell? (ad567.add (x19_3).toNat) = some (.string (rdOf ByteArray.empty l3 x19_3)) ∧ w'.cell? (ad567.add (x19_3).toNat) = some (.string (rdOf ByteArray.empty l3 x19_3)) ∧ w'.cell? (ad567.add (x19_3).toNat) = some (.string (rdOf ByteArray.empty l3 x19_3)) ∧ w'.cell? (ad567.add (x19_3).toNat) = some (.string (rdOf ByteArray.empty l3 x19_3))) (ds:=[]) #[false,false,false,false,false,false,false,false,false,false,false,false,false,false,false,false,false,false,false,false,false,false,false,false,false,false,false,false,false,false,false,false,false,false,false,false] (by kernel_rfl) rfl rfl ⟨((HB.out.cell (World.block_lt_of_cell? w _ hw567_0)).trans hw567_0),((HB.out.cell (World.block_lt_of_cell? w _ hw568_0)).trans hw568_0),((HB.out.cell (World.block_lt_of_cell? w _ hw570_0)).trans hw570_0),((HB.out.cell (World.block_lt_of_cell? w _ hw572_0)).trans hw572_0),((HB.out.cell (World.block_lt_of_cell? w _ hw574_0)).trans hw574_0)⟩ (fun hHeld => ?_);refine with_tabW cofferlaw10_PageKeeps.tab16 cofferlaw10_PageKeeps.bits16 (fun HT_ HW_ => ?_)
               generalize wr.drew = w55 at HO_9 HO_10 HO_11 HB hx567_0 hx568_0 hx570_0 hx572_0 hx574_0 hHeld ⊢
               refine pure_ (i:=0) (N:=some 120) (v:=?_) (a':=?_) #[true,false,false,false,false,false,false,false,false,false,false,false,false,false,false,false,false,false,false,false,false,false,false,false,false,false,false,false,false,false,false,false,false,false,false,false] rfl rfl (any_of HT_.out (by kernel_rfl)) (fun _ _ _ h => h) (Or.inl ⟨by rfl,?_⟩) ?_ ?_
               rotate_left
               ·intro w'
                go_simp
                with_reducible rfl
               rotate_left
               ·simp only [Act.put,List.setIfInBounds_toArray,List.set_cons_zero,List.set_cons_succ,i64_w,i32_w]
                rfl
               refine pure_ (i:=1) (N:=some 121) (v:=?_) (a':=?_) #[true,true,false,false,false,false,false,false,false,false,false,false,false,false,false,false,false,false,false,false,false,false,false,false,false,false,false,false,false,false,false,false,false,false,false,false] rfl rfl (any_of HT_.out (by kernel_rfl)) (fun _ _ _ h => h) (Or.inl ⟨by rfl,?_⟩) ?_ ?_
               rotate_left
               ·intro w'
                go_simp
                with_reducible rfl
               rotate_left
               ·simp only [Act.put,List.setIfInBounds_toArray,List.set_cons_zero,List.set_cons_succ,i64_w,i32_w]
                rfl
               refine pure_ (i:=2) (N:=some 122) (v:=?_) (a':=?_) #[true,true,true,false,false,false,false,false,false,false,false,false,false,false,false,false,false,false,false,false,false,false,false,false,false,false,false,false,false,false,false,false,false,false,false,false] rfl rfl (any_of HT_.out (by kernel_rfl)) (fun _ _ _ h => h) (Or.inl ⟨by rfl,?_⟩) ?_ ?_
               rotate_left
               ·intro w'
                go_simp
                with_reducible rfl
               rotate_left
               ·simp only [Act.put,List.setIfInBounds_toArray,List.set_cons_zero,List.set_cons_succ,i64_w,i32_w]
                rfl
               refine pure_ (i:=4) (N:=some 124) (v:=?_) (a':=?_) #[true,true,true,false,true,false,false,false,false,false,false,false,false,false,false,false,false,false,false,false,false,false,false,false,false,false,false,false,false,false,false,false,false,false,false,false] rfl rfl (any_of HT_.out (by kernel_rfl)) (fun _ _ _ h => h) (Or.inl ⟨by rfl,?_⟩) ?_ ?_
               rotate_left
               ·intro w'
                go_simp
                with_reducible rfl
               rotate_left
               ·simp only [Act.put,List.setIfInBounds_toArray,List.set_cons_zero,List.set_cons_succ,i64_w,i32_w]
                rfl
               refine take_ (i:=3) (N:=some 123) (v:=?_) (a':=?_) #[true,true,true,true,true,false,false,false,false,false,false,false,false,false,false,false,false,false,false,false,false,false,false,false,false,false,false,false,false,false,false,false,false,false,false,false] rfl rfl (take_ofW HT_.out HW_.out (by kernel_rfl)) (fun _ _ _ h => h) (Or.inl ⟨by rfl,?_⟩) hHeld ?_ ?_
               rotate_left
               ·rintro w' ⟨s0,s1,s2,s3,s4⟩
                go_simp
                with_reducible rfl
               rotate_left
               ·simp only [Act.put,List.setIfInBounds_toArray,List.set_cons_zero,List.set_cons_succ,i64_w,i32_w]
                rfl
               refine pure_ (i:=5) (N:=some 125) (v:=?_) (a':=?_) #[true,true,true,true,true,true,false,false,false,false,false,false,false,false,false,false,false,false,false,false,false,false,false,false,false,false,false,false,false,false,false,false,false,false,false,false] rfl rfl (any_of HT_.out (by kernel_rfl)) (fun _ _ _ h => h) (Or.inl ⟨by rfl,?_⟩) ?_ ?_
               rotate_left
               ·intro w'
                go_simp
                with_reducible rfl
               rotate_left
               ·simp only [Act.put,List.setIfInBounds_toArray,List.set_cons_zero,List.set_cons_succ,i64_w,i32_w]
                rfl
               refine pure_ (i:=6) (N:=some 126) (v:=?_) (a':=?_) #[true,true,true,true,true,true,true,false,false,false,false,false,false,false,false,false,false,false,false,false,false,false,false,false,false,false,false,false,false,false,false,false,false,false,false,false] rfl rfl (any_of HT_.out (by kernel_rfl)) (fun _ _ _ h => h) (Or.inl ⟨by rfl,?_⟩) ?_ ?_
               rotate_left
               ·intro w'
                go_simp
                with_reducible rfl
               rotate_left
               ·simp only [Act.put,List.setIfInBounds_toArray,List.set_cons_zero,List.set_cons_succ,i64_w,i32_w]
                rfl
               refine pure_ (i:=7) (N:=some 127) (v:=?_) (a':=?_) #[true,true,true,true,true,true,true,true,false,false,false,false,false,false,false,false,false,false,false,false,false,false,false,false,false,false,false,false,false,false,false,false,false,false,false,false] rfl rfl (any_of HT_.out (by kernel_rfl)) (fun _ _ _ h => h) (Or.inl ⟨by rfl,?_⟩) ?_ ?_
               rotate_left
               ·intro w'
                go_simp
                with_reducible rfl
               rotate_left
               ·simp only [Act.put,List.setIfInBounds_toArray,List.set_cons_zero,List.set_cons_succ,i64_w,i32_w]
                rfl
               refine pure_ (i:=8) (N:=some 128) (v:=?_) (a':=?_) #[true,true,true,true,true,true,true,true,true,false,false,false,false,false,false,false,false,false,false,false,false,false,false,false,false,false,false,false,false,false,false,false,false,false,false,false] rfl rfl (any_of HT_.out (by kernel_rfl)) (fun _ _ _ h => h) (Or.inl ⟨by rfl,?_⟩) ?_ ?_
               rotate_left
               ·intro w'
                go_simp
                with_reducible rfl
               rotate_left
               ·simp only [Act.put,List.setIfInBounds_toArray,List.set_cons_zero,List.set_cons_succ,i64_w,i32_w]
                rfl
               refine pure_ (i:=9) (N:=some 129) (v:=?_) (a':=?_) #[true,true,true,true,true,true,true,true,true,true,false,false,false,false,false,false,false,false,false,false,false,false,false,false,false,false,false,false,false,false,false,false,false,false,false,false] rfl rfl (any_of HT_.out (by kernel_rfl)) (fun _ _ _ h => h) (Or.inl ⟨by rfl,?_⟩) ?_ ?_
               rotate_left
               ·intro w'
                go_simp
                with_reducible rfl
               rotate_left
               ·simp only [Act.put,List.setIfInBounds_toArray,List.set_cons_zero,List.set_cons_succ,i64_w,i32_w]
                rfl
               refine pure_ (i:=10) (N:=some 130) (v:=?_) (a':=?_) #[true,true,true,true,true,true,true,true,true,true,true,false,false,false,false,false,false,false,false,false,false,false,false,false,false,false,false,false,false,false,false,false,false,false,false,false] rfl rfl (any_of HT_.out (by kernel_rfl)) (fun _ _ _ h => h) (Or.inl ⟨by rfl,?_⟩) ?_ ?_
               rotate_left
               ·intro w'
                go_simp
                with_reducible rfl
               rotate_left
               ·simp only [Act.put,List.setIfInBounds_toArray,List.set_cons_zero,List.set_cons_succ,i64_w,i32_w]
                rfl
               refine pure_ (i:=13) (N:=some 133) (v:=?_) (a':=?_) #[true,true,true,true,true,true,true,true,true,true,true,false,false,true,false,false,false,false,false,false,false,false,false,false,false,false,false,false,false,false,false,false,false,false,false,false] rfl rfl (any_of HT_.out (by kernel_rfl)) (fun _ _ _ h => h) (Or.inl ⟨by rfl,?_⟩) ?_ ?_
               rotate_left
               ·intro w'
                go_simp
                with_reducible rfl
               rotate_left
               ·simp only [Act.put,List.setIfInBounds_toArray,List.set_cons_zero,List.set_cons_succ,i64_w,i32_w]
                rfl
               refine pure_ (i:=14) (N:=some 134) (v:=?_) (a':=?_) #[true,true,true,true,true,true,true,true,true,true,true,false,false,true,true,false,false,false,false,false,false,false,false,false,false,false,false,false,false,false,false,false,false,false,false,false] rfl rfl (any_of HT_.out (by kernel_rfl)) (fun _ _ _ h => h) (Or.inl ⟨by rfl,?_⟩) ?_ ?_
               rotate_left
               ·intro w'
                go_simp
                with_reducible rfl
               rotate_left
               ·simp only [Act.put,List.setIfInBounds_toArray,List.set_cons_zero,List.set_cons_succ,i64_w,i32_w]
                rfl
               refine pure_ (i:=15) (N:=some 135) (v:=?_) (a':=?_) #[true,true,true,true,true,true,true,true,true,true,true,false,false,true,true,true,false,false,false,false,false,false,false,false,false,false,false,false,false,false,false,false,false,false,false,false] rfl rfl (any_of HT_.out (by kernel_rfl)) (fun _ _ _ h => h) (Or.inl ⟨by rfl,?_⟩) ?_ ?_
               rotate_left
               ·intro w'
                go_simp
                with_reducible rfl
               rotate_left
               ·simp only [Act.put,List.setIfInBounds_toArray,List.set_cons_zero,List.set_cons_succ,i64_w,i32_w]
                rfl
               refine pure_ (i:=16) (N:=some 136) (v:=?_) (a':=?_) #[true,true,true,true,true,true,true,true,true,true,true,false,false,true,true,true,true,false,false,false,false,false,false,false,false,false,false,false,false,false,false,false,false,false,false,false] rfl rfl (any_of HT_.out (by kernel_rfl)) (fun _ _ _ h => h) (Or.inl ⟨by rfl,?_⟩) ?_ ?_
               rotate_left
               ·intro w'
                go_simp
                with_reducible rfl
               rotate_left
               ·simp only [Act.put,List.setIfInBounds_toArray,List.set_cons_zero,List.set_cons_succ,i64_w,i32_w]
                rfl
               refine take_ (i:=11) (N:=some 131) (v:=?_) (a':=?_) #[true,true,true,true,true,true,true,true,true,true,true,true,false,true,true,true,true,false,false,false,false,false,false,false,false,false,false,false,false,false,false,false,false,false,false,false] rfl rfl (take_ofW HT_.out HW_.out (by kernel_rfl)) (fun _ _ _ h => h) (Or.inl ⟨by rfl,?_⟩) hHeld ?_ ?_
               rotate_left
               ·rintro w' ⟨s0,s1,s2,s3,s4⟩
                go_simp
                with_reducible rfl
               rotate_left
               ·simp only [Act.put,List.setIfInBounds_toArray,List.set_cons_zero,List.set_cons_succ,i64_w,i32_w]
                rfl
               refine take_ (i:=17) (N:=some 137) (v:=?_) (a':=?_) #[true,true,true,true,true,true,true,true,true,true,true,true,false,true,true,true,true,true,false,false,false,false,false,false,false,false,false,false,false,false,false,false,false,false,false,false] rfl rfl (take_ofW HT_.out HW_.out (by kernel_rfl)) (fun _ _ _ h => h) (Or.inl ⟨by rfl,?_⟩) hHeld ?_ ?_
               rotate_left
               ·rintro w' ⟨s0,s1,s2,s3,s4⟩
                go_simp
                with_reducible rfl
               rotate_left
               ·simp only [Act.put,List.setIfInBounds_toArray,List.set_cons_zero,List.set_cons_succ,i64_w,i32_w]
                rfl
               refine one_ (i:=12) (N:=some 132) #[true,true,true,true,true,true,true,true,true,true,true,true,true,true,true,true,true,true,false,false,false,false,false,false,false,false,false,false,false,false,false,false,false,false,false,false] rfl rfl (one_of HT_.out (by kernel_rfl)) (by decide) (fun K hK => ?_)
               refine goes_ Try.func30 (by kernel_rfl) rfl #[.slice Ao15 t544.length co15,.string (rdOf ByteArray.empty l3 x19_3)] (by rfl) rfl rfl (by (try simp only [List.map_toArray,List.map_cons,List.map_nil]);first|done|rfl|(simp only [List.length_drop,List.length_take];rfl)) ?_
               with_reducible refine (cofferlaw10_value1.calls k3 _ _ t544 (rdOf ByteArray.empty l3 x19_3) t569 _ ?side1 ?side2 A49.out).mono ?_
               (case side1 => repeat (first|exact (Kd.R_reads' HO_9.out).2.2|(with_reducible refine Kd.C_alloc ?_ _)|(with_reducible refine Kd.C_drewN ?_ _)|(with_reducible refine Kd.C_drew ?_)))
               (case side2 => exact (Kd.R_reads' HO_9.out).2.1)
               rintro e w56 ⟨rfl,hb⟩
               refine ⟨_,rfl,?_⟩
               have n0_:=Aside0.mk (Kd.R_below (by (with_reducible repeat (first|apply Kd.R_alloc|apply Kd.R_drewN|apply Kd.R_drew));exact HO_9.out) hb)
               have n1_:=Aside0.mk (Kd.R_below (by (with_reducible repeat (first|apply Kd.R_alloc|apply Kd.R_drewN|apply Kd.R_drew));exact HO_10.out) hb)
               have n2_:=Aside0.mk (Kd.R_below (by (with_reducible repeat (first|apply Kd.R_alloc|apply Kd.R_drewN|apply Kd.R_drew));exact HO_11.out) hb)
               have n3_:=Aside0.mk (below_step (by repeat (first|(with_reducible first|exact HB.out|apply below_alloc|apply pw_below_drewN|apply below_drew1)|exact HB.out)) hb)
               clear HO_9
               clear HO_10
               clear HO_11
               clear HB
               have HO_9:=n0_
               have HO_10:=n1_
               have HO_11:=n2_
               have HB:=n3_
               clear n0_ n1_ n2_ n3_
               (try clear hb)
               (try clear hb2)
               (try clear hk)
               (try clear hi)
               refine hK.out _ _ ⟨((HB.out.cell (World.block_lt_of_cell? w _ hw567_0)).trans hw567_0),((HB.out.cell (World.block_lt_of_cell? w _ hw568_0)).trans hw568_0),((HB.out.cell (World.block_lt_of_cell? w _ hw570_0)).trans hw570_0),((HB.out.cell (World.block_lt_of_cell? w _ hw572_0)).trans hw572_0),((HB.out.cell (World.block_lt_of_cell? w _ hw574_0)).trans hw574_0)⟩ (fun hHeld => ?_)
               clear hK K
               refine norm_ (a':=?_) ?_ ?_
               rotate_left
               ·show Act.put _ (some 132) _ = _
                simp only [Act.put,List.setIfInBounds_toArray,List.set_cons_zero,List.set_cons_succ,i64_w,i32_w]
                rfl
               refine one_ (i:=18) (N:=some 138) #[true,true,true,true,true,true,true,true,true,true,true,true,true,true,true,true,true,true,true,false,false,false,false,false,false,false,false,false,false,false,false,false,false,false,false,false] rfl rfl (one_of HT_.out (by kernel_rfl)) (by decide) (fun K hK => ?_)
               refine goes_ Try.func30 (by kernel_rfl) rfl #[.slice Ao17 t547.length co17,.string (rdOf ByteArray.empty l3 x19_3)] (by rfl) rfl rfl (by (try simp only [List.map_toArray,List.map_cons,List.map_nil]);first|done|rfl|(simp only [List.length_drop,List.length_take];rfl)) ?_
               with_reducible refine (cofferlaw10_value1.calls k3 _ _ t547 (rdOf ByteArray.empty l3 x19_3) t571 _ ?side1 ?side2 A50.out).mono ?_
               (case side1 => repeat (first|exact (Kd.R_reads' HO_10.out).2.2|(with_reducible refine Kd.C_alloc ?_ _)|(with_reducible refine Kd.C_drewN ?_ _)|(with_reducible refine Kd.C_drew ?_)))
               (case side2 => exact (Kd.R_reads' HO_10.out).2.1)
               rintro e w57 ⟨rfl,hb⟩
               refine ⟨_,rfl,?_⟩
               have n0_:=Aside0.mk (Kd.R_below (by (with_reducible repeat (first|apply Kd.R_alloc|apply Kd.R_drewN|apply Kd.R_drew));exact HO_9.out) hb)
               have n1_:=Aside0.mk (Kd.R_below (by (with_reducible repeat (first|apply Kd.R_alloc|apply Kd.R_drewN|apply Kd.R_drew));exact HO_10.out) hb)
               have n2_:=Aside0.mk (Kd.R_below (by (with_reducible repeat (first|apply Kd.R_alloc|apply Kd.R_drewN|apply Kd.R_drew));exact HO_11.out) hb)
               have n3_:=Aside0.mk (below_step (by repeat (first|(with_reducible first|exact HB.out|apply below_alloc|apply pw_below_drewN|apply below_drew1)|exact HB.out)) hb)
               clear HO_9
               clear HO_10
               clear HO_11
               clear HB
               have HO_9:=n0_
               have HO_10:=n1_
               have HO_11:=n2_
               have HB:=n3_
               clear n0_ n1_ n2_ n3_
               (try clear hb)
               (try clear hb2)
               (try clear hk)
               (try clear hi)
               refine hK.out _ _ ⟨((HB.out.cell (World.block_lt_of_cell? w _ hw567_0)).trans hw567_0),((HB.out.cell (World.block_lt_of_cell? w _ hw568_0)).trans hw568_0),((HB.out.cell (World.block_lt_of_cell? w _ hw570_0)).trans hw570_0),((HB.out.cell (World.block_lt_of_cell? w _ hw572_0)).trans hw572_0),((HB.out.cell (World.block_lt_of_cell? w _ hw574_0)).trans hw574_0)⟩ (fun hHeld => ?_)
               clear hK K
               refine norm_ (a':=?_) ?_ ?_
               rotate_left
               ·show Act.put _ (some 138) _ = _
                simp only [Act.put,List.setIfInBounds_toArray,List.set_cons_zero,List.set_cons_succ,i64_w,i32_w]
                rfl
               refine pure_ (i:=19) (N:=some 139) (v:=?_) (a':=?_) #[true,true,true,true,true,true,true,true,true,true,true,true,true,true,true,true,true,true,true,true,false,false,false,false,false,false,false,false,false,false,false,false,false,false,false,false] rfl rfl (any_of HT_.out (by kernel_rfl)) (fun _ _ _ h => h) (Or.inl ⟨by rfl,?_⟩) ?_ ?_
               rotate_left
               ·intro w'
                go_simp
                with_reducible rfl
               rotate_left
               ·simp only [Act.put,List.setIfInBounds_toArray,List.set_cons_zero,List.set_cons_succ,i64_w,i32_w]
                rfl
               refine pure_ (i:=20) (N:=some 140) (v:=?_) (a':=?_) #[true,true,true,true,true,true,true,true,true,true,true,true,true,true,true,true,true,true,true,true,true,false,false,false,false,false,false,false,false,false,false,false,false,false,false,false] rfl rfl (any_of HT_.out (by kernel_rfl)) (fun _ _ _ h => h) (Or.inl ⟨by rfl,?_⟩) ?_ ?_
               rotate_left
               ·intro w'
                go_simp
                with_reducible rfl
               rotate_left
               ·simp only [Act.put,List.setIfInBounds_toArray,List.set_cons_zero,List.set_cons_succ,i64_w,i32_w]
                rfl
               refine pure_ (i:=21) (N:=some 141) (v:=?_) (a':=?_) #[true,true,true,true,true,true,true,true,true,true,true,true,true,true,true,true,true,true,true,true,true,true,false,false,false,false,false,false,false,false,false,false,false,false,false,false] rfl rfl (any_of HT_.out (by kernel_rfl)) (fun _ _ _ h => h) (Or.inl ⟨by rfl,?_⟩) ?_ ?_
               rotate_left
               ·intro w'
                go_simp
                with_reducible rfl
               rotate_left
               ·simp only [Act.put,List.setIfInBounds_toArray,List.set_cons_zero,List.set_cons_succ,i64_w,i32_w]
                rfl
               refine pure_ (i:=22) (N:=some 142) (v:=?_) (a':=?_) #[true,true,true,true,true,true,true,true,true,true,true,true,true,true,true,true,true,true,true,true,true,true,true,false,false,false,false,false,false,false,false,false,false,false,false,false] rfl rfl (any_of HT_.out (by kernel_rfl)) (fun _ _ _ h => h) (Or.inl ⟨by rfl,?_⟩) ?_ ?_
               rotate_left
               ·intro w'
                go_simp
                with_reducible rfl
               rotate_left
               ·simp only [Act.put,List.setIfInBounds_toArray,List.set_cons_zero,List.set_cons_succ,i64_w,i32_w]
                rfl
               refine pure_ (i:=23) (N:=some 143) (v:=?_) (a':=?_) #[true,true,true,true,true,true,true,true,true,true,true,true,true,true,true,true,true,true,true,true,true,true,true,true,false,false,false,false,false,false,false,false,false,false,false,false] rfl rfl (any_of HT_.out (by kernel_rfl)) (fun _ _ _ h => h) (Or.inl ⟨by rfl,?_⟩) ?_ ?_
               rotate_left
               ·intro w'
                go_simp
                with_reducible rfl
               rotate_left
               ·simp only [Act.put,List.setIfInBounds_toArray,List.set_cons_zero,List.set_cons_succ,i64_w,i32_w]
                rfl
               refine pure_ (i:=24) (N:=some 144) (v:=?_) (a':=?_) #[true,true,true,true,true,true,true,true,true,true,true,true,true,true,true,true,true,true,true,true,true,true,true,true,true,false,false,false,false,false,false,false,false,false,false,false] rfl rfl (any_of HT_.out (by kernel_rfl)) (fun _ _ _ h => h) (Or.inl ⟨by rfl,?_⟩) ?_ ?_
               rotate_left
               ·intro w'
                go_simp
                with_reducible rfl
               rotate_left
               ·simp only [Act.put,List.setIfInBounds_toArray,List.set_cons_zero,List.set_cons_succ,i64_w,i32_w]
                rfl
               refine pure_ (i:=27) (N:=some 147) (v:=?_) (a':=?_) #[true,true,true,true,true,true,true,true,true,true,true,true,true,true,true,true,true,true,true,true,true,true,true,true,true,false,false,true,false,false,false,false,false,false,false,false] rfl rfl (any_of HT_.out (by kernel_rfl)) (fun _ _ _ h => h) (Or.inl ⟨by rfl,?_⟩) ?_ ?_
               rotate_left
               ·intro w'
                go_simp
                with_reducible rfl
               rotate_left
               ·simp only [Act.put,List.setIfInBounds_toArray,List.set_cons_zero,List.set_cons_succ,i64_w,i32_w]
                rfl
               refine pure_ (i:=28) (N:=some 148) (v:=?_) (a':=?_) #[true,true,true,true,true,true,true,true,true,true,true,true,true,true,true,true,true,true,true,true,true,true,true,true,true,false,false,true,true,false,false,false,false,false,false,false] rfl rfl (any_of HT_.out (by kernel_rfl)) (fun _ _ _ h => h) (Or.inl ⟨by rfl,?_⟩) ?_ ?_
               rotate_left
               ·intro w'
                go_simp
                with_reducible rfl
               rotate_left
               ·simp only [Act.put,List.setIfInBounds_toArray,List.set_cons_zero,List.set_cons_succ,i64_w,i32_w]
                rfl
               refine pure_ (i:=29) (N:=some 149) (v:=?_) (a':=?_) #[true,true,true,true,true,true,true,true,true,true,true,true,true,true,true,true,true,true,true,true,true,true,true,true,true,false,false,true,true,true,false,false,false,false,false,false] rfl rfl (any_of HT_.out (by kernel_rfl)) (fun _ _ _ h => h) (Or.inl ⟨by rfl,?_⟩) ?_ ?_
               rotate_left
               ·intro w'
                go_simp
                with_reducible rfl
               rotate_left
               ·simp only [Act.put,List.setIfInBounds_toArray,List.set_cons_zero,List.set_cons_succ,i64_w,i32_w]
                rfl
               refine pure_ (i:=30) (N:=some 150) (v:=?_) (a':=?_) #[true,true,true,true,true,true,true,true,true,true,true,true,true,true,true,true,true,true,true,true,true,true,true,true,true,false,false,true,true,true,true,false,false,false,false,false] rfl rfl (any_of HT_.out (by kernel_rfl)) (fun _ _ _ h => h) (Or.inl ⟨by rfl,?_⟩) ?_ ?_
               rotate_left
               ·intro w'
                go_simp
                with_reducible rfl
               rotate_left
               ·simp only [Act.put,List.setIfInBounds_toArray,List.set_cons_zero,List.set_cons_succ,i64_w,i32_w]
                rfl
               refine take_ (i:=25) (N:=some 145) (v:=?_) (a':=?_) #[true,true,true,true,true,true,true,true,true,true,true,true,true,true,true,true,true,true,true,true,true,true,true,true,true,true,false,true,true,true,true,false,false,false,false,false] rfl rfl (take_ofW HT_.out HW_.out (by kernel_rfl)) (fun _ _ _ h => h) (Or.inl ⟨by rfl,?_⟩) hHeld ?_ ?_
               rotate_left
               ·rintro w' ⟨s0,s1,s2,s3,s4⟩
                go_simp
                with_reducible rfl
               rotate_left
               ·simp only [Act.put,List.setIfInBounds_toArray,List.set_cons_zero,List.set_cons_succ,i64_w,i32_w]
                rfl
               refine take_ (i:=31) (N:=some 151) (v:=?_) (a':=?_) #[true,true,true,true,true,true,true,true,true,true,true,true,true,true,true,true,true,true,true,true,true,true,true,true,true,true,false,true,true,true,true,true,false,false,false,false] rfl rfl (take_ofW HT_.out HW_.out (by kernel_rfl)) (fun _ _ _ h => h) (Or.inl ⟨by rfl,?_⟩) hHeld ?_ ?_
               rotate_left
               ·rintro w' ⟨s0,s1,s2,s3,s4⟩
                go_simp
                with_reducible rfl
               rotate_left
               ·simp only [Act.put,List.setIfInBounds_toArray,List.set_cons_zero,List.set_cons_succ,i64_w,i32_w]
                rfl
               refine one_ (i:=26) (N:=some 146) #[true,true,true,true,true,true,true,true,true,true,true,true,true,true,true,true,true,true,true,true,true,true,true,true,true,true,true,true,true,true,true,true,false,false,false,false] rfl rfl (one_of HT_.out (by kernel_rfl)) (by decide) (fun K hK => ?_)
               refine goes_ Try.func30 (by kernel_rfl) rfl #[.slice Ao15 t544.length co15,.string (rdOf ByteArray.empty l3 x19_3)] (by rfl) rfl rfl (by (try simp only [List.map_toArray,List.map_cons,List.map_nil]);first|done|rfl|(simp only [List.length_drop,List.length_take];rfl)) ?_
               with_reducible refine (cofferlaw10_value1.calls k3 _ _ t544 (rdOf ByteArray.empty l3 x19_3) t573 _ ?side1 ?side2 A52.out).mono ?_
               (case side1 => repeat (first|exact (Kd.R_reads' HO_9.out).2.2|(with_reducible refine Kd.C_alloc ?_ _)|(with_reducible refine Kd.C_drewN ?_ _)|(with_reducible refine Kd.C_drew ?_)))
               (case side2 => exact (Kd.R_reads' HO_9.out).2.1)
               rintro e w58 ⟨rfl,hb⟩
               refine ⟨_,rfl,?_⟩
               have n0_:=Aside0.mk (Kd.R_below (by (with_reducible repeat (first|apply Kd.R_alloc|apply Kd.R_drewN|apply Kd.R_drew));exact HO_9.out) hb)
               have n1_:=Aside0.mk (Kd.R_below (by (with_reducible repeat (first|apply Kd.R_alloc|apply Kd.R_drewN|apply Kd.R_drew));exact HO_10.out) hb)
               have n2_:=Aside0.mk (Kd.R_below (by (with_reducible repeat (first|apply Kd.R_alloc|apply Kd.R_drewN|apply Kd.R_drew));exact HO_11.out) hb)
               have n3_:=Aside0.mk (below_step (by repeat (first|(with_reducible first|exact HB.out|apply below_alloc|apply pw_below_drewN|apply below_drew1)|exact HB.out)) hb)
               clear HO_9
               clear HO_10
               clear HO_11
               clear HB
               have HO_9:=n0_
               have HO_10:=n1_
               have HO_11:=n2_
               have HB:=n3_
               clear n0_ n1_ n2_ n3_
               (try clear hb)
               (try clear hb2)
               (try clear hk)
               (try clear hi)
               refine hK.out _ _ ⟨((HB.out.cell (World.block_lt_of_cell? w _ hw567_0)).trans hw567_0),((HB.out.cell (World.block_lt_of_cell? w _ hw568_0)).trans hw568_0),((HB.out.cell (World.block_lt_of_cell? w _ hw570_0)).trans hw570_0),((HB.out.cell (World.block_lt_of_cell? w _ hw572_0)).trans hw572_0),((HB.out.cell (World.block_lt_of_cell? w _ hw574_0)).trans hw574_0)⟩ (fun hHeld => ?_)
               clear hK K
               refine norm_ (a':=?_) ?_ ?_
               rotate_left
               ·show Act.put _ (some 146) _ = _
                simp only [Act.put,List.setIfInBounds_toArray,List.set_cons_zero,List.set_cons_succ,i64_w,i32_w]
                rfl
               refine one_ (i:=32) (N:=some 152) #[true,true,true,true,true,true,true,true,true,true,true,true,true,true,true,true,true,true,true,true,true,true,true,true,true,true,true,true,true,true,true,true,true,false,false,false] rfl rfl (one_of HT_.out (by kernel_rfl)) (by decide) (fun K hK => ?_)
               refine goes_ Try.func30 (by kernel_rfl) rfl #[.slice Ao19 t550.length co19,.string (rdOf ByteArray.empty l3 x19_3)] (by rfl) rfl rfl (by (try simp only [List.map_toArray,List.map_cons,List.map_nil]);first|done|rfl|(simp only [List.length_drop,List.length_take];rfl)) ?_
               with_reducible refine (cofferlaw10_value1.calls k3 _ _ t550 (rdOf ByteArray.empty l3 x19_3) t575 _ ?side1 ?side2 A53.out).mono ?_
               (case side1 => repeat (first|exact (Kd.R_reads' HO_11.out).2.2|(with_reducible refine Kd.C_alloc ?_ _)|(with_reducible refine Kd.C_drewN ?_ _)|(with_reducible refine Kd.C_drew ?_)))
               (case side2 => exact (Kd.R_reads' HO_11.out).2.1)
               rintro e w59 ⟨rfl,hb⟩
               refine ⟨_,rfl,?_⟩
               have n0_:=Aside0.mk (Kd.R_below (by (with_reducible repeat (first|apply Kd.R_alloc|apply Kd.R_drewN|apply Kd.R_drew));exact HO_9.out) hb)
               have n1_:=Aside0.mk (Kd.R_below (by (with_reducible repeat (first|apply Kd.R_alloc|apply Kd.R_drewN|apply Kd.R_drew));exact HO_10.out) hb)
               have n2_:=Aside0.mk (Kd.R_below (by (with_reducible repeat (first|apply Kd.R_alloc|apply Kd.R_drewN|apply Kd.R_drew));exact HO_11.out) hb)
               have n3_:=Aside0.mk (below_step (by repeat (first|(with_reducible first|exact HB.out|apply below_alloc|apply pw_below_drewN|apply below_drew1)|exact HB.out)) hb)
               clear HO_9
               clear HO_10
               clear HO_11
               clear HB
               have HO_9:=n0_
               have HO_10:=n1_
               have HO_11:=n2_
               have HB:=n3_
               clear n0_ n1_ n2_ n3_
               (try clear hb)
               (try clear hb2)
               (try clear hk)
               (try clear hi)
               refine hK.out _ _ ⟨((HB.out.cell (World.block_lt_of_cell? w _ hw567_0)).trans hw567_0),((HB.out.cell (World.block_lt_of_cell? w _ hw568_0)).trans hw568_0),((HB.out.cell (World.block_lt_of_cell? w _ hw570_0)).trans hw570_0),((HB.out.cell (World.block_lt_of_cell? w _ hw572_0)).trans hw572_0),((HB.out.cell (World.block_lt_of_cell? w _ hw574_0)).trans hw574_0)⟩ (fun hHeld => ?_)
               clear hK K
               refine norm_ (a':=?_) ?_ ?_
               rotate_left
               ·show Act.put _ (some 152) _ = _
                simp only [Act.put,List.setIfInBounds_toArray,List.set_cons_zero,List.set_cons_succ,i64_w,i32_w]
                rfl
               refine pure_ (i:=33) (N:=some 153) (v:=?_) (a':=?_) #[true,true,true,true,true,true,true,true,true,true,true,true,true,true,true,true,true,true,true,true,true,true,true,true,true,true,true,true,true,true,true,true,true,true,false,false] rfl rfl (any_of HT_.out (by kernel_rfl)) (fun _ _ _ h => h) (Or.inl ⟨by rfl,?_⟩) ?_ ?_
               rotate_left
               ·intro w'
                go_simp
                with_reducible rfl
               rotate_left
               ·simp only [Act.put,List.setIfInBounds_toArray,List.set_cons_zero,List.set_cons_succ,i64_w,i32_w]
                rfl
               refine pure_ (i:=34) (N:=some 154) (v:=?_) (a':=?_) #[true,true,true,true,true,true,true,true,true,true,true,true,true,true,true,true,true,true,true,true,true,true,true,true,true,true,true,true,true,true,true,true,true,true,true,false] rfl rfl (any_of HT_.out (by kernel_rfl)) (fun _ _ _ h => h) (Or.inl ⟨by rfl,?_⟩) ?_ ?_
               rotate_left
               ·intro w'
                go_simp
                with_reducible rfl
               rotate_left
               ·simp only [Act.put,List.setIfInBounds_toArray,List.set_cons_zero,List.set_cons_succ,i64_w,i32_w]
                rfl
               refine pure_ (i:=35) (N:=some 155) (v:=?_) (a':=?_) #[true,true,true,true,true,true,true,true,true,true,true,true,true,true,true,true,true,true,true,true,true,true,true,true,true,true,true,true,true,true,true,true,true,true,true,true] rfl rfl (any_of HT_.out (by kernel_rfl)) (fun _ _ _ h => h) (Or.inl ⟨by rfl,?_⟩) ?_ ?_
               rotate_left
               ·intro w'
                go_simp
                with_reducible rfl
               rotate_left
               ·simp only [Act.put,List.setIfInBounds_toArray,List.set_cons_zero,List.set_cons_succ,i64_w,i32_w]
                rfl
               refine done_ (done_of HT_.out (by kernel_rfl)) ?_
               try go_wp2
               go_roundg k3
               case measure => have:=HJ11.out;have:=HJ37.out;have:=HK3.out;omega
               case rel => exact ⟨(wrap64 (x19_3 + 1)),(by first|rfl|(simp;done)|(simp [Go.Proofs.Ytffgodpmmipnkaa.Z.bne_nil,Go.Proofs.Ytffgodpmmipnkaa.Z.beq_nil];done)|(simp [*];done)),H',⟨by have:=HJ11.out;have:=HJ37.out;have:=HK3.out;omega⟩,⟨by (with_reducible repeat (first|apply Kd.R_alloc|apply Kd.R_drewN|apply Kd.R_drew));exact HO_9.out⟩,⟨by (with_reducible repeat (first|apply Kd.R_alloc|apply Kd.R_drewN|apply Kd.R_drew));exact HO_10.out⟩,⟨by (with_reducible repeat (first|apply Kd.R_alloc|apply Kd.R_drewN|apply Kd.R_drew));exact HO_11.out⟩,⟨by repeat (first|(with_reducible first|exact HB.out|apply below_alloc|apply pw_below_drewN|apply below_drew1)|exact HB.out)⟩⟩
              ·rw [if_neg c54] at H
               exact absurd H (by simp)
             ·rw [if_neg c51] at H
              have c51b0 : (t569.toList == t571.toList) = false:=beq_eq_false_iff_ne.mpr c51
              have c51b1 : (t569.toList != t571.toList) = true:=bne_iff_ne.mpr c51
              exact absurd H (by simp)
           ·rw [if_neg c46] at H
            exact absurd H (by simp)
          ·rw [if_neg c45] at H
           have c45b0 : decide (x19_3 < (l3.length : Int)) = false:=decide_eq_false c45
           clear c45
           have H':=Aside0.mk H
           clear H
           go_wp2
           go_loopg [20] k3 (fun kq v20 w' => ∃ (x20_4 : Int),v20 = .int .i64 x20_4 ∧ Aside0 (cofferlaw10_PageKeeps.l1 kq a1 t544 t547 t550 x20_4 = some r) ∧ Aside0 (kq ≤ k3) ∧ Aside0 (Kd.R k37 37 w' w.heap.size (fun k_ => some k_ ≠ ((.slice Ao17 t547.length co17) : Value).ownBlock ∧ some k_ ≠ ((.slice Ao19 t550.length co19) : Value).ownBlock) (.slice Ao15 t544.length co15) t544) ∧ Aside0 (Kd.R k37 37 w' w.heap.size (fun k_ => some k_ ≠ ((.slice Ao15 t544.length co15) : Value).ownBlock ∧ some k_ ≠ ((.slice Ao19 t550.length co19) : Value).ownBlock) (.slice Ao17 t547.length co17) t547) ∧ Aside0 (Kd.R k37 37 w' w.heap.size (fun k_ => some k_ ≠ ((.slice Ao15 t544.length co15) : Value).ownBlock ∧ some k_ ≠ ((.slice Ao17 t547.length co17) : Value).ownBlock) (.slice Ao19 t550.length co19) t550) ∧ Aside0 (Below w.heap.size w w'))
           case atStart => exact ⟨(0),(by first|rfl|(simp;done)|(simp [Go.Proofs.Ytffgodpmmipnkaa.Z.bne_nil,Go.Proofs.Ytffgodpmmipnkaa.Z.beq_nil];done)|(simp [*];done)),H',⟨Nat.le_refl _⟩,⟨by (with_reducible repeat (first|apply Kd.R_alloc|apply Kd.R_drewN|apply Kd.R_drew));exact HO_9.out⟩,⟨by (with_reducible repeat (first|apply Kd.R_alloc|apply Kd.R_drewN|apply Kd.R_drew));exact HO_10.out⟩,⟨by (with_reducible repeat (first|apply Kd.R_alloc|apply Kd.R_drewN|apply Kd.R_drew));exact HO_11.out⟩,⟨by repeat (first|(with_reducible first|exact HB.out|apply below_alloc|apply pw_below_drewN|apply below_drew1)|exact HB.out)⟩⟩
           case round =>
            clear H'
            try clear p2
            try clear c3
            try clear c4
            try clear c5
            try clear p5
            try clear q5
            try clear hx5
            try clear p6
            try clear c30
            try clear c45
            try clear c45b0
            try clear c46
            try clear c47
            try clear c47b0
            try clear c47b1
            try clear c51
            try clear c51b0
            try clear c51b1
            try clear c54
            try clear c54b0
            try clear c54b1
            try clear p56
            try clear q56
            try clear hx56
            try clear p57
            try clear q57
            try clear hx57
            try clear hx567_0
            try clear hx568_0
            try clear hx570_0
            try clear hx572_0
            try clear hx574_0
            try clear p567
            try clear p568
            try clear p570
            try clear p572
            try clear p574
            try clear q567
            try clear q568
            try clear q570
            try clear q572
            try clear q574
            obtain ⟨x20_4,rfl,HA,HK4,HO_9,HO_10,HO_11,HB⟩:=hrel
            cases gk with
            | zero => exact absurd HA.out (by simp [cofferlaw10_PageKeeps.l1])
            | succ k4 =>
             have H:=HA.out
             clear HA
             simp only [cofferlaw10_PageKeeps.l1] at H
             by_cases c60 : x20_4 < (t544.length : Int)
             ·rw [if_pos c60] at H
              have c60b0 : decide (x20_4 < (t544.length : Int)) = true:=decide_eq_true c60
              clear c60
              by_cases c61 : 0 ≤ x20_4
              ·rw [if_pos c61] at H
               have c61b0 : decide (0 ≤ x20_4) = true:=decide_eq_true c61
               clear c61
               by_cases c62 : ((rd_T37 t544 x20_4).f0).toList = a1.toList
               ·rw [if_pos c62] at H
                have c62b0 : (((rd_T37 t544 x20_4).f0).toList == a1.toList) = true:=beq_iff_eq.mpr c62
                have c62b1 : (((rd_T37 t544 x20_4).f0).toList != a1.toList) = false:=bne_eq_false_iff_eq.mpr c62
                clear c62
                have H':=Aside0.mk H
                clear H
                try go_wp2
                have n0_:=Aside0.mk (Kd.R_drew HO_9.out)
                have n1_:=Aside0.mk (Kd.R_drew HO_10.out)
                have n2_:=Aside0.mk (Kd.R_drew HO_11.out)
                have n3_:=Aside0.mk (below_drew1 HB.out)
                clear HO_9
                clear HO_10
                clear HO_11
                clear HB
                have HO_9:=n0_
                have HO_10:=n1_
                have HO_11:=n2_
                have HB:=n3_
                clear n0_ n1_ n2_ n3_
                have p576 : 0 ≤ (x20_4 : Int):=of_decide_eq_true (by first|(with_reducible assumption)|assumption)
                have q576 : x20_4 < (t544.length : Int):=of_decide_eq_true (by first|(with_reducible assumption)|assumption)
                obtain ⟨ad576,e576,hx576_0,hx576_1⟩:=at_T37 (Kd.R_reads' HO_9.out).2.2 x20_4 p576 q576
                cases e576
                replace p576:=eq_true p576
                replace q576:=eq_true q576
                refine start_ (n:=39) (S:=fun w' => w'.cell? (ad576.add ((x20_4).toNat * 2)) = some (.string ((rd_T37 t544 x20_4).f0)) ∧ w'.cell? ⟨(ad576.add ((x20_4).toNat * 2)).block,(ad576.add ((x20_4).toNat * 2)).off + 1,none⟩ = some (.string ((rd_T37 t544 x20_4).f1))) (ds:=[]) #[false,false,false,false,false,false,false,false,false,false,false,false,false,false,false,false,false,false,false,false,false,false,false,false,false,false,false,false,false,false,false,false,false,false,false,false,false,false,false] (by kernel_rfl) rfl rfl ⟨hx576_0,hx576_1⟩ (fun hHeld => ?_);refine with_tabW cofferlaw10_PageKeeps.tab21 cofferlaw10_PageKeeps.bits21 (fun HT_ HW_ => ?_)
                generalize wr.drew = w63 at HO_9 HO_10 HO_11 HB hx576_0 hx576_1 hHeld ⊢
                refine pure_ (i:=0) (N:=some 162) (v:=?_) (a':=?_) #[true,false,false,false,false,false,false,false,false,false,false,false,false,false,false,false,false,false,false,false,false,false,false,false,false,false,false,false,false,false,false,false,false,false,false,false,false,false,false] rfl rfl (any_of HT_.out (by kernel_rfl)) (fun _ _ _ h => h) (Or.inl ⟨by rfl,?_⟩) ?_ ?_
                rotate_left
                ·intro w'
                 go_simp
                 with_reducible rfl
                rotate_left
                ·simp only [Act.put,List.setIfInBounds_toArray,List.set_cons_zero,List.set_cons_succ,i64_w,i32_w]
                 rfl
                refine pure_ (i:=1) (N:=some 163) (v:=?_) (a':=?_) #[true,true,false,false,false,false,false,false,false,false,false,false,false,false,false,false,false,false,false,false,false,false,false,false,false,false,false,false,false,false,false,false,false,false,false,false,false,false,false] rfl rfl (any_of HT_.out (by kernel_rfl)) (fun _ _ _ h => h) (Or.inl ⟨by rfl,?_⟩) ?_ ?_
                rotate_left
                ·intro w'
                 go_simp
                 with_reducible rfl
                rotate_left
                ·simp only [Act.put,List.setIfInBounds_toArray,List.set_cons_zero,List.set_cons_succ,i64_w,i32_w]
                 rfl
                refine pure_ (i:=2) (N:=some 164) (v:=?_) (a':=?_) #[true,true,true,false,false,false,false,false,false,false,false,false,false,false,false,false,false,false,false,false,false,false,false,false,false,false,false,false,false,false,false,false,false,false,false,false,false,false,false] rfl rfl (any_of HT_.out (by kernel_rfl)) (fun _ _ _ h => h) (Or.inl ⟨by rfl,?_⟩) ?_ ?_
                rotate_left
                ·intro w'
                 go_simp
                 with_reducible rfl
                rotate_left
                ·simp only [Act.put,List.setIfInBounds_toArray,List.set_cons_zero,List.set_cons_succ,i64_w,i32_w]
                 rfl
                refine pure_ (i:=3) (N:=some 165) (v:=?_) (a':=?_) #[true,true,true,true,false,false,false,false,false,false,false,false,false,false,false,false,false,false,false,false,false,false,false,false,false,false,false,false,false,false,false,false,false,false,false,false,false,false,false] rfl rfl (any_of HT_.out (by kernel_rfl)) (fun _ _ _ h => h) (Or.inl ⟨by rfl,?_⟩) ?_ ?_
                rotate_left
                ·intro w'
                 go_simp
                 with_reducible rfl
                rotate_left
                ·simp only [Act.put,List.setIfInBounds_toArray,List.set_cons_zero,List.set_cons_succ,i64_w,i32_w]
                 rfl
                refine pure_ (i:=5) (N:=some 167) (v:=?_) (a':=?_) #[true,true,true,true,false,true,false,false,false,false,false,false,false,false,false,false,false,false,false,false,false,false,false,false,false,false,false,false,false,false,false,false,false,false,false,false,false,false,false] rfl rfl (any_of HT_.out (by kernel_rfl)) (fun _ _ _ h => h) (Or.inl ⟨by rfl,?_⟩) ?_ ?_
                rotate_left
                ·intro w'
                 go_simp
                 with_reducible rfl
                rotate_left
                ·simp only [Act.put,List.setIfInBounds_toArray,List.set_cons_zero,List.set_cons_succ,i64_w,i32_w]
                 rfl
                refine take_ (i:=4) (N:=some 166) (v:=?_) (a':=?_) #[true,true,true,true,true,true,false,false,false,false,false,false,false,false,false,false,false,false,false,false,false,false,false,false,false,false,false,false,false,false,false,false,false,false,false,false,false,false,false] rfl rfl (take_ofW HT_.out HW_.out (by kernel_rfl)) (fun _ _ _ h => h) (Or.inl ⟨by rfl,?_⟩) hHeld ?_ ?_
                rotate_left
                ·rintro w' ⟨s0,s1⟩
                 go_simp
                 with_reducible rfl
                rotate_left
                ·simp only [Act.put,List.setIfInBounds_toArray,List.set_cons_zero,List.set_cons_succ,i64_w,i32_w]
                 rfl
                refine pure_ (i:=6) (N:=some 168) (v:=?_) (a':=?_) #[true,true,true,true,true,true,true,false,false,false,false,false,false,false,false,false,false,false,false,false,false,false,false,false,false,false,false,false,false,false,false,false,false,false,false,false,false,false,false] rfl rfl (any_of HT_.out (by kernel_rfl)) (fun _ _ _ h => h) (Or.inl ⟨by rfl,?_⟩) ?_ ?_
                rotate_left
                ·intro w'
                 go_simp
                 with_reducible rfl
                rotate_left
                ·simp only [Act.put,List.setIfInBounds_toArray,List.set_cons_zero,List.set_cons_succ,i64_w,i32_w]
                 rfl
                refine pure_ (i:=7) (N:=some 169) (v:=?_) (a':=?_) #[true,true,true,true,true,true,true,true,false,false,false,false,false,false,false,false,false,false,false,false,false,false,false,false,false,false,false,false,false,false,false,false,false,false,false,false,false,false,false] rfl rfl (any_of HT_.out (by kernel_rfl)) (fun _ _ _ h => h) (Or.inl ⟨by rfl,?_⟩) ?_ ?_
                rotate_left
                ·intro w'
                 go_simp
                 with_reducible rfl
                rotate_left
                ·simp only [Act.put,List.setIfInBounds_toArray,List.set_cons_zero,List.set_cons_succ,i64_w,i32_w]
                 rfl
                refine pure_ (i:=8) (N:=some 170) (v:=undef) (a':=?_) #[true,true,true,true,true,true,true,true,true,false,false,false,false,false,false,false,false,false,false,false,false,false,false,false,false,false,false,false,false,false,false,false,false,false,false,false,false,false,false] rfl rfl (any_of HT_.out (by kernel_rfl)) (fun _ _ _ h => h) (Or.inr ⟨by rfl,rfl⟩) ?_ ?_
                rotate_left
                ·simp only [Act.put,List.setIfInBounds_toArray,List.set_cons_zero,List.set_cons_succ,i64_w,i32_w]
                 rfl
                refine pure_ (i:=9) (N:=some 171) (v:=undef) (a':=?_) #[true,true,true,true,true,true,true,true,true,true,false,false,false,false,false,false,false,false,false,false,false,false,false,false,false,false,false,false,false,false,false,false,false,false,false,false,false,false,false] rfl rfl (any_of HT_.out (by kernel_rfl)) (fun _ _ _ h => h) (Or.inr ⟨by rfl,rfl⟩) ?_ ?_
                rotate_left
                ·simp only [Act.put,List.setIfInBounds_toArray,List.set_cons_zero,List.set_cons_succ,i64_w,i32_w]
                 rfl
                refine pure_ (i:=10) (N:=some 172) (v:=undef) (a':=?_) #[true,true,true,true,true,true,true,true,true,true,true,false,false,false,false,false,false,false,false,false,false,false,false,false,false,false,false,false,false,false,false,false,false,false,false,false,false,false,false] rfl rfl (any_of HT_.out (by kernel_rfl)) (fun _ _ _ h => h) (Or.inr ⟨by rfl,rfl⟩) ?_ ?_
                rotate_left
                ·simp only [Act.put,List.setIfInBounds_toArray,List.set_cons_zero,List.set_cons_succ,i64_w,i32_w]
                 rfl
                refine pure_ (i:=11) (N:=some 173) (v:=undef) (a':=?_) #[true,true,true,true,true,true,true,true,true,true,true,true,false,false,false,false,false,false,false,false,false,false,false,false,false,false,false,false,false,false,false,false,false,false,false,false,false,false,false] rfl rfl (any_of HT_.out (by kernel_rfl)) (fun _ _ _ h => h) (Or.inr ⟨by rfl,rfl⟩) ?_ ?_
                rotate_left
                ·simp only [Act.put,List.setIfInBounds_toArray,List.set_cons_zero,List.set_cons_succ,i64_w,i32_w]
                 rfl
                refine pure_ (i:=12) (N:=some 174) (v:=undef) (a':=?_) #[true,true,true,true,true,true,true,true,true,true,true,true,true,false,false,false,false,false,false,false,false,false,false,false,false,false,false,false,false,false,false,false,false,false,false,false,false,false,false] rfl rfl (any_of HT_.out (by kernel_rfl)) (fun _ _ _ h => h) (Or.inr ⟨by rfl,rfl⟩) ?_ ?_
                rotate_left
                ·simp only [Act.put,List.setIfInBounds_toArray,List.set_cons_zero,List.set_cons_succ,i64_w,i32_w]
                 rfl
                refine pure_ (i:=13) (N:=some 175) (v:=undef) (a':=?_) #[true,true,true,true,true,true,true,true,true,true,true,true,true,true,false,false,false,false,false,false,false,false,false,false,false,false,false,false,false,false,false,false,false,false,false,false,false,false,false] rfl rfl (any_of HT_.out (by kernel_rfl)) (fun _ _ _ h => h) (Or.inr ⟨by rfl,rfl⟩) ?_ ?_
                rotate_left
                ·simp only [Act.put,List.setIfInBounds_toArray,List.set_cons_zero,List.set_cons_succ,i64_w,i32_w]
                 rfl
                refine pure_ (i:=14) (N:=some 176) (v:=undef) (a':=?_) #[true,true,true,true,true,true,true,true,true,true,true,true,true,true,true,false,false,false,false,false,false,false,false,false,false,false,false,false,false,false,false,false,false,false,false,false,false,false,false] rfl rfl (any_of HT_.out (by kernel_rfl)) (fun _ _ _ h => h) (Or.inr ⟨by rfl,rfl⟩) ?_ ?_
                rotate_left
                ·simp only [Act.put,List.setIfInBounds_toArray,List.set_cons_zero,List.set_cons_succ,i64_w,i32_w]
                 rfl
                refine pure_ (i:=15) (N:=some 177) (v:=undef) (a':=?_) #[true,true,true,true,true,true,true,true,true,true,true,true,true,true,true,true,false,false,false,false,false,false,false,false,false,false,false,false,false,false,false,false,false,false,false,false,false,false,false] rfl rfl (any_of HT_.out (by kernel_rfl)) (fun _ _ _ h => h) (Or.inr ⟨by rfl,rfl⟩) ?_ ?_
                rotate_left
                ·simp only [Act.put,List.setIfInBounds_toArray,List.set_cons_zero,List.set_cons_succ,i64_w,i32_w]
                 rfl
                refine pure_ (i:=16) (N:=some 178) (v:=undef) (a':=?_) #[true,true,true,true,true,true,true,true,true,true,true,true,true,true,true,true,true,false,false,false,false,false,false,false,false,false,false,false,false,false,false,false,false,false,false,false,false,false,false] rfl rfl (any_of HT_.out (by kernel_rfl)) (fun _ _ _ h => h) (Or.inr ⟨by rfl,rfl⟩) ?_ ?_
                rotate_left
                ·simp only [Act.put,List.setIfInBounds_toArray,List.set_cons_zero,List.set_cons_succ,i64_w,i32_w]
                 rfl
                refine pure_ (i:=17) (N:=some 179) (v:=undef) (a':=?_) #[true,true,true,true,true,true,true,true,true,true,true,true,true,true,true,true,true,true,false,false,false,false,false,false,false,false,false,false,false,false,false,false,false,false,false,false,false,false,false] rfl rfl (any_of HT_.out (by kernel_rfl)) (fun _ _ _ h => h) (Or.inr ⟨by rfl,rfl⟩) ?_ ?_
                rotate_left
                ·simp only [Act.put,List.setIfInBounds_toArray,List.set_cons_zero,List.set_cons_succ,i64_w,i32_w]
                 rfl
                refine pure_ (i:=18) (N:=some 180) (v:=undef) (a':=?_) #[true,true,true,true,true,true,true,true,true,true,true,true,true,true,true,true,true,true,true,false,false,false,false,false,false,false,false,false,false,false,false,false,false,false,false,false,false,false,false] rfl rfl (any_of HT_.out (by kernel_rfl)) (fun _ _ _ h => h) (Or.inr ⟨by rfl,rfl⟩) ?_ ?_
                rotate_left
                ·simp only [Act.put,List.setIfInBounds_toArray,List.set_cons_zero,List.set_cons_succ,i64_w,i32_w]
                 rfl
                refine pure_ (i:=19) (N:=some 181) (v:=undef) (a':=?_) #[true,true,true,true,true,true,true,true,true,true,true,true,true,true,true,true,true,true,true,true,false,false,false,false,false,false,false,false,false,false,false,false,false,false,false,false,false,false,false] rfl rfl (any_of HT_.out (by kernel_rfl)) (fun _ _ _ h => h) (Or.inr ⟨by rfl,rfl⟩) ?_ ?_
                rotate_left
                ·simp only [Act.put,List.setIfInBounds_toArray,List.set_cons_zero,List.set_cons_succ,i64_w,i32_w]
                 rfl
                refine pure_ (i:=20) (N:=some 182) (v:=undef) (a':=?_) #[true,true,true,true,true,true,true,true,true,true,true,true,true,true,true,true,true,true,true,true,true,false,false,false,false,false,false,false,false,false,false,false,false,false,false,false,false,false,false] rfl rfl (any_of HT_.out (by kernel_rfl)) (fun _ _ _ h => h) (Or.inr ⟨by rfl,rfl⟩) ?_ ?_
                rotate_left
                ·simp only [Act.put,List.setIfInBounds_toArray,List.set_cons_zero,List.set_cons_succ,i64_w,i32_w]
                 rfl
                refine pure_ (i:=21) (N:=some 183) (v:=undef) (a':=?_) #[true,true,true,true,true,true,true,true,true,true,true,true,true,true,true,true,true,true,true,true,true,true,false,false,false,false,false,false,false,false,false,false,false,false,false,false,false,false,false] rfl rfl (any_of HT_.out (by kernel_rfl)) (fun _ _ _ h => h) (Or.inr ⟨by rfl,rfl⟩) ?_ ?_
                rotate_left
                ·simp only [Act.put,List.setIfInBounds_toArray,List.set_cons_zero,List.set_cons_succ,i64_w,i32_w]
                 rfl
                refine pure_ (i:=22) (N:=some 184) (v:=undef) (a':=?_) #[true,true,true,true,true,true,true,true,true,true,true,true,true,true,true,true,true,true,true,true,true,true,true,false,false,false,false,false,false,false,false,false,false,false,false,false,false,false,false] rfl rfl (any_of HT_.out (by kernel_rfl)) (fun _ _ _ h => h) (Or.inr ⟨by rfl,rfl⟩) ?_ ?_
                rotate_left
                ·simp only [Act.put,List.setIfInBounds_toArray,List.set_cons_zero,List.set_cons_succ,i64_w,i32_w]
                 rfl
                refine pure_ (i:=23) (N:=some 185) (v:=undef) (a':=?_) #[true,true,true,true,true,true,true,true,true,true,true,true,true,true,true,true,true,true,true,true,true,true,true,true,false,false,false,false,false,false,false,false,false,false,false,false,false,false,false] rfl rfl (any_of HT_.out (by kernel_rfl)) (fun _ _ _ h => h) (Or.inr ⟨by rfl,rfl⟩) ?_ ?_
                rotate_left
                ·simp only [Act.put,List.setIfInBounds_toArray,List.set_cons_zero,List.set_cons_succ,i64_w,i32_w]
                 rfl
                refine pure_ (i:=24) (N:=some 186) (v:=undef) (a':=?_) #[true,true,true,true,true,true,true,true,true,true,true,true,true,true,true,true,true,true,true,true,true,true,true,true,true,false,false,false,false,false,false,false,false,false,false,false,false,false,false] rfl rfl (any_of HT_.out (by kernel_rfl)) (fun _ _ _ h => h) (Or.inr ⟨by rfl,rfl⟩) ?_ ?_
                rotate_left
                ·simp only [Act.put,List.setIfInBounds_toArray,List.set_cons_zero,List.set_cons_succ,i64_w,i32_w]
                 rfl
                refine pure_ (i:=25) (N:=some 187) (v:=undef) (a':=?_) #[true,true,true,true,true,true,true,true,true,true,true,true,true,true,true,true,true,true,true,true,true,true,true,true,true,true,false,false,false,false,false,false,false,false,false,false,false,false,false] rfl rfl (any_of HT_.out (by kernel_rfl)) (fun _ _ _ h => h) (Or.inr ⟨by rfl,rfl⟩) ?_ ?_
                rotate_left
                ·simp only [Act.put,List.setIfInBounds_toArray,List.set_cons_zero,List.set_cons_succ,i64_w,i32_w]
                 rfl
                refine pure_ (i:=26) (N:=some 188) (v:=undef) (a':=?_) #[true,true,true,true,true,true,true,true,true,true,true,true,true,true,true,true,true,true,true,true,true,true,true,true,true,true,true,false,false,false,false,false,false,false,false,false,false,false,false] rfl rfl (any_of HT_.out (by kernel_rfl)) (fun _ _ _ h => h) (Or.inr ⟨by rfl,rfl⟩) ?_ ?_
                rotate_left
                ·simp only [Act.put,List.setIfInBounds_toArray,List.set_cons_zero,List.set_cons_succ,i64_w,i32_w]
                 rfl
                refine pure_ (i:=27) (N:=some 189) (v:=undef) (a':=?_) #[true,true,true,true,true,true,true,true,true,true,true,true,true,true,true,true,true,true,true,true,true,true,true,true,true,true,true,true,false,false,false,false,false,false,false,false,false,false,false] rfl rfl (any_of HT_.out (by kernel_rfl)) (fun _ _ _ h => h) (Or.inr ⟨by rfl,rfl⟩) ?_ ?_
                rotate_left
                ·simp only [Act.put,List.setIfInBounds_toArray,List.set_cons_zero,List.set_cons_succ,i64_w,i32_w]
                 rfl
                refine pure_ (i:=28) (N:=some 190) (v:=undef) (a':=?_) #[true,true,true,true,true,true,true,true,true,true,true,true,true,true,true,true,true,true,true,true,true,true,true,true,true,true,true,true,true,false,false,false,false,false,false,false,false,false,false] rfl rfl (any_of HT_.out (by kernel_rfl)) (fun _ _ _ h => h) (Or.inr ⟨by rfl,rfl⟩) ?_ ?_
                rotate_left
                ·simp only [Act.put,List.setIfInBounds_toArray,List.set_cons_zero,List.set_cons_succ,i64_w,i32_w]
                 rfl
                refine pure_ (i:=29) (N:=some 191) (v:=undef) (a':=?_) #[true,true,true,true,true,true,true,true,true,true,true,true,true,true,true,true,true,true,true,true,true,true,true,true,true,true,true,true,true,true,false,false,false,false,false,false,false,false,false] rfl rfl (any_of HT_.out (by kernel_rfl)) (fun _ _ _ h => h) (Or.inr ⟨by rfl,rfl⟩) ?_ ?_
                rotate_left
                ·simp only [Act.put,List.setIfInBounds_toArray,List.set_cons_zero,List.set_cons_succ,i64_w,i32_w]
                 rfl
                refine pure_ (i:=30) (N:=some 192) (v:=undef) (a':=?_) #[true,true,true,true,true,true,true,true,true,true,true,true,true,true,true,true,true,true,true,true,true,true,true,true,true,true,true,true,true,true,true,false,false,false,false,false,false,false,false] rfl rfl (any_of HT_.out (by kernel_rfl)) (fun _ _ _ h => h) (Or.inr ⟨by rfl,rfl⟩) ?_ ?_
                rotate_left
                ·simp only [Act.put,List.setIfInBounds_toArray,List.set_cons_zero,List.set_cons_succ,i64_w,i32_w]
                 rfl
                refine pure_ (i:=31) (N:=some 193) (v:=undef) (a':=?_) #[true,true,true,true,true,true,true,true,true,true,true,true,true,true,true,true,true,true,true,true,true,true,true,true,true,true,true,true,true,true,true,true,false,false,false,false,false,false,false] rfl rfl (any_of HT_.out (by kernel_rfl)) (fun _ _ _ h => h) (Or.inr ⟨by rfl,rfl⟩) ?_ ?_
                rotate_left
                ·simp only [Act.put,List.setIfInBounds_toArray,List.set_cons_zero,List.set_cons_succ,i64_w,i32_w]
                 rfl
                refine pure_ (i:=32) (N:=some 194) (v:=undef) (a':=?_) #[true,true,true,true,true,true,true,true,true,true,true,true,true,true,true,true,true,true,true,true,true,true,true,true,true,true,true,true,true,true,true,true,true,false,false,false,false,false,false] rfl rfl (any_of HT_.out (by kernel_rfl)) (fun _ _ _ h => h) (Or.inr ⟨by rfl,rfl⟩) ?_ ?_
                rotate_left
                ·simp only [Act.put,List.setIfInBounds_toArray,List.set_cons_zero,List.set_cons_succ,i64_w,i32_w]
                 rfl
                refine pure_ (i:=33) (N:=some 195) (v:=undef) (a':=?_) #[true,true,true,true,true,true,true,true,true,true,true,true,true,true,true,true,true,true,true,true,true,true,true,true,true,true,true,true,true,true,true,true,true,true,false,false,false,false,false] rfl rfl (any_of HT_.out (by kernel_rfl)) (fun _ _ _ h => h) (Or.inr ⟨by rfl,rfl⟩) ?_ ?_
                rotate_left
                ·simp only [Act.put,List.setIfInBounds_toArray,List.set_cons_zero,List.set_cons_succ,i64_w,i32_w]
                 rfl
                refine pure_ (i:=34) (N:=some 196) (v:=undef) (a':=?_) #[true,true,true,true,true,true,true,true,true,true,true,true,true,true,true,true,true,true,true,true,true,true,true,true,true,true,true,true,true,true,true,true,true,true,true,false,false,false,false] rfl rfl (any_of HT_.out (by kernel_rfl)) (fun _ _ _ h => h) (Or.inr ⟨by rfl,rfl⟩) ?_ ?_
                rotate_left
                ·simp only [Act.put,List.setIfInBounds_toArray,List.set_cons_zero,List.set_cons_succ,i64_w,i32_w]
                 rfl
                refine pure_ (i:=35) (N:=some 197) (v:=undef) (a':=?_) #[true,true,true,true,true,true,true,true,true,true,true,true,true,true,true,true,true,true,true,true,true,true,true,true,true,true,true,true,true,true,true,true,true,true,true,true,false,false,false] rfl rfl (any_of HT_.out (by kernel_rfl)) (fun _ _ _ h => h) (Or.inr ⟨by rfl,rfl⟩) ?_ ?_
                rotate_left
                ·simp only [Act.put,List.setIfInBounds_toArray,List.set_cons_zero,List.set_cons_succ,i64_w,i32_w]
                 rfl
                refine pure_ (i:=36) (N:=some 198) (v:=undef) (a':=?_) #[true,true,true,true,true,true,true,true,true,true,true,true,true,true,true,true,true,true,true,true,true,true,true,true,true,true,true,true,true,true,true,true,true,true,true,true,true,false,false] rfl rfl (any_of HT_.out (by kernel_rfl)) (fun _ _ _ h => h) (Or.inr ⟨by rfl,rfl⟩) ?_ ?_
                rotate_left
                ·simp only [Act.put,List.setIfInBounds_toArray,List.set_cons_zero,List.set_cons_succ,i64_w,i32_w]
                 rfl
                refine pure_ (i:=37) (N:=some 199) (v:=undef) (a':=?_) #[true,true,true,true,true,true,true,true,true,true,true,true,true,true,true,true,true,true,true,true,true,true,true,true,true,true,true,true,true,true,true,true,true,true,true,true,true,true,false] rfl rfl (any_of HT_.out (by kernel_rfl)) (fun _ _ _ h => h) (Or.inr ⟨by rfl,rfl⟩) ?_ ?_
                rotate_left
                ·simp only [Act.put,List.setIfInBounds_toArray,List.set_cons_zero,List.set_cons_succ,i64_w,i32_w]
                 rfl
                refine pure_ (i:=38) (N:=some 200) (v:=?_) (a':=?_) #[true,true,true,true,true,true,true,true,true,true,true,true,true,true,true,true,true,true,true,true,true,true,true,true,true,true,true,true,true,true,true,true,true,true,true,true,true,true,true] rfl rfl (any_of HT_.out (by kernel_rfl)) (fun _ _ _ h => h) (Or.inl ⟨by rfl,?_⟩) ?_ ?_
                rotate_left
                ·intro w'
                 go_simp
                 with_reducible rfl
                rotate_left
                ·simp only [Act.put,List.setIfInBounds_toArray,List.set_cons_zero,List.set_cons_succ,i64_w,i32_w]
                 rfl
                refine done_ (done_of HT_.out (by kernel_rfl)) ?_
                try go_wp2
                go_roundg k4
                case measure => have:=HJ11.out;have:=HJ37.out;have:=HK3.out;have:=HK4.out;omega
                case rel => exact ⟨(wrap64 (x20_4 + 1)),(by first|rfl|(simp;done)|(simp [Go.Proofs.Ytffgodpmmipnkaa.Z.bne_nil,Go.Proofs.Ytffgodpmmipnkaa.Z.beq_nil];done)|(simp [*];done)),H',⟨by have:=HJ11.out;have:=HJ37.out;have:=HK3.out;have:=HK4.out;omega⟩,⟨by (with_reducible repeat (first|apply Kd.R_alloc|apply Kd.R_drewN|apply Kd.R_drew));exact HO_9.out⟩,⟨by (with_reducible repeat (first|apply Kd.R_alloc|apply Kd.R_drewN|apply Kd.R_drew));exact HO_10.out⟩,⟨by (with_reducible repeat (first|apply Kd.R_alloc|apply Kd.R_drewN|apply Kd.R_drew));exact HO_11.out⟩,⟨by repeat (first|(with_reducible first|exact HB.out|apply below_alloc|apply pw_below_drewN|apply below_drew1)|exact HB.out)⟩⟩
               ·rw [if_neg c62] at H
                have c62b0 : (((rd_T37 t544 x20_4).f0).toList == a1.toList) = false:=beq_eq_false_iff_ne.mpr c62
                have c62b1 : (((rd_T37 t544 x20_4).f0).toList != a1.toList) = true:=bne_iff_ne.mpr c62
                replace H:=Option.bind_eq_some_iff.mp H
                obtain ⟨t578,A640,H⟩:=H
                replace H : (if 1 + ((rd_T37 t544 x20_4).f1).size ≤ 9223372036854775807 then (if t578.toList = ((⟨#[43]⟩ : ByteArray) ++ ((rd_T37 t544 x20_4).f1)).toList then ((cofferlaw10_value1.f k4 t550 ((rd_T37 t544 x20_4).f0)).bind fun t581 => (if t581.toList = ((⟨#[43]⟩ : ByteArray) ++ ((rd_T37 t544 x20_4).f1)).toList then (cofferlaw10_PageKeeps.l1 k4 a1 t544 t547 t550 (wrap64 (x20_4 + 1))) else (none))) else (none)) else (none)) = some r:=H
                have A64:=Aside0.mk A640
                clear A640
                by_cases c65 : 1 + ((rd_T37 t544 x20_4).f1).size ≤ 9223372036854775807
                ·rw [if_pos c65] at H
                 have c65b0:=eq_true c65
                 have c65b1 : decide (1 + ((rd_T37 t544 x20_4).f1).size ≤ 9223372036854775807) = true:=decide_eq_true c65
                 try have c65b2 : (9223372036854775807 < 1 + ((rd_T37 t544 x20_4).f1).size) = False:=eq_false (Nat.not_lt.2 c65)
                 by_cases c66 : t578.toList = ((⟨#[43]⟩ : ByteArray) ++ ((rd_T37 t544 x20_4).f1)).toList
                 ·rw [if_pos c66] at H
                  have c66b0 : (t578.toList == ((⟨#[43]⟩ : ByteArray) ++ ((rd_T37 t544 x20_4).f1)).toList) = true:=beq_iff_eq.mpr c66
                  have c66b1 : (t578.toList != ((⟨#[43]⟩ : ByteArray) ++ ((rd_T37 t544 x20_4).f1)).toList) = false:=bne_eq_false_iff_eq.mpr c66
                  clear c66
                  replace H:=Option.bind_eq_some_iff.mp H
                  obtain ⟨t581,A670,H⟩:=H
                  replace H : (if t581.toList = ((⟨#[43]⟩ : ByteArray) ++ ((rd_T37 t544 x20_4).f1)).toList then (cofferlaw10_PageKeeps.l1 k4 a1 t544 t547 t550 (wrap64 (x20_4 + 1))) else (none)) = some r:=H
                  have A67:=Aside0.mk A670
                  clear A670
                  by_cases c68 : t581.toList = ((⟨#[43]⟩ : ByteArray) ++ ((rd_T37 t544 x20_4).f1)).toList
                  ·rw [if_pos c68] at H
                   have c68b0 : (t581.toList == ((⟨#[43]⟩ : ByteArray) ++ ((rd_T37 t544 x20_4).f1)).toList) = true:=beq_iff_eq.mpr c68
                   have c68b1 : (t581.toList != ((⟨#[43]⟩ : ByteArray) ++ ((rd_T37 t544 x20_4).f1)).toList) = false:=bne_eq_false_iff_eq.mpr c68
                   clear c68
                   have H':=Aside0.mk H
                   clear H
                   try go_wp2
                   have n0_:=Aside0.mk (Kd.R_drew HO_9.out)
                   have n1_:=Aside0.mk (Kd.R_drew HO_10.out)
                   have n2_:=Aside0.mk (Kd.R_drew HO_11.out)
                   have n3_:=Aside0.mk (below_drew1 HB.out)
                   clear HO_9
                   clear HO_10
                   clear HO_11
                   clear HB
                   have HO_9:=n0_
                   have HO_10:=n1_
                   have HO_11:=n2_
                   have HB:=n3_
                   clear n0_ n1_ n2_ n3_
                   have p576 : 0 ≤ (x20_4 : Int):=of_decide_eq_true (by first|(with_reducible assumption)|assumption)
                   have q576 : x20_4 < (t544.length : Int):=of_decide_eq_true (by first|(with_reducible assumption)|assumption)
                   obtain ⟨ad576,e576,hx576_0,hx576_1⟩:=at_T37 (Kd.R_reads' HO_9.out).2.2 x20_4 p576 q576
                   cases e576
                   replace p576:=eq_true p576
                   replace q576:=eq_true q576
                   have p577 : 0 ≤ (x20_4 : Int):=of_decide_eq_true (by first|(with_reducible assumption)|assumption)
                   have q577 : x20_4 < (t544.length : Int):=of_decide_eq_true (by first|(with_reducible assumption)|assumption)
                   obtain ⟨ad577,e577,hx577_0,hx577_1⟩:=at_T37 (Kd.R_reads' HO_9.out).2.2 x20_4 p577 q577
                   obtain rfl : ad576 = ad577:=(by injection e577)
                   replace p577:=eq_true p577
                   replace q577:=eq_true q577
                   have p579 : 0 ≤ (x20_4 : Int):=of_decide_eq_true (by first|(with_reducible assumption)|assumption)
                   have q579 : x20_4 < (t544.length : Int):=of_decide_eq_true (by first|(with_reducible assumption)|assumption)
                   obtain ⟨ad579,e579,hx579_0,hx579_1⟩:=at_T37 (Kd.R_reads' HO_9.out).2.2 x20_4 p579 q579
                   obtain rfl : ad576 = ad579:=(by injection e579)
                   replace p579:=eq_true p579
                   replace q579:=eq_true q579
                   have p580 : 0 ≤ (x20_4 : Int):=of_decide_eq_true (by first|(with_reducible assumption)|assumption)
                   have q580 : x20_4 < (t544.length : Int):=of_decide_eq_true (by first|(with_reducible assumption)|assumption)
                   obtain ⟨ad580,e580,hx580_0,hx580_1⟩:=at_T37 (Kd.R_reads' HO_9.out).2.2 x20_4 p580 q580
                   obtain rfl : ad576 = ad580:=(by injection e580)
                   replace p580:=eq_true p580
                   replace q580:=eq_true q580
                   have p582 : 0 ≤ (x20_4 : Int):=of_decide_eq_true (by first|(with_reducible assumption)|assumption)
                   have q582 : x20_4 < (t544.length : Int):=of_decide_eq_true (by first|(with_reducible assumption)|assumption)
                   obtain ⟨ad582,e582,hx582_0,hx582_1⟩:=at_T37 (Kd.R_reads' HO_9.out).2.2 x20_4 p582 q582
                   obtain rfl : ad576 = ad582:=(by injection e582)
                   replace p582:=eq_true p582
                   replace q582:=eq_true q582
                   refine start_ (n:=39) (S:=fun w' => w'.cell? (ad576.add ((x20_4).toNat * 2)) = some (.string ((rd_T37 t544 x20_4).f0)) ∧ w'.cell? ⟨(ad576.add ((x20_4).toNat * 2)).block,(ad576.add ((x20_4).toNat * 2)).off + 1,none⟩ = some (.string ((rd_T37 t544 x20_4).f1)) ∧ w'.cell? (ad576.add ((x20_4).toNat * 2)) = some (.string ((rd_T37 t544 x20_4).f0)) ∧ w'.cell? ⟨(ad576.add ((x20_4).toNat * 2)).block,(ad576.add ((x20_4).toNat * 2)).off + 1,none⟩ = some (.string ((rd_T37 t544 x20_4).f1)) ∧ w'.cell? (ad576.add ((x20_4).toNat * 2)) = some (.string ((rd_T37 t544 x20_4).f0)) ∧ w'.cell? ⟨(ad576.add ((x20_4).toNat * 2)).block,(ad576.add ((x20_4).toNat * 2)).off + 1,none⟩ = some (.string ((rd_T37 t544 x20_4).f1)) ∧ w'.cell? (ad576.add ((x20_4).toNat * 2)) = some (.string ((rd_T37 t544 x20_4).f0)) ∧ w'.cell? ⟨(ad576.add ((x20_4).toNat * 2)).block,(ad576.add ((x20_4).toNat * 2)).off + 1,none⟩ = some (.string ((rd_T37 t544 x20_4).f1)) ∧ w'.cell? (ad576.add ((x20_4).toNat * 2)) = some (.string ((rd_T37 t544 x20_4).f0)) ∧ w'.cell? ⟨(ad576.add ((x20_4).toNat * 2)).block,(ad576.add ((x20_4).toNat * 2)).off + 1,none⟩ = some (.string ((rd_T37 t544 x20_4).f1))) (ds:=[]) #[false,false,false,false,false,false,false,false,false,false,false,false,false,false,false,false,false,false,false,false,false,false,false,false,false,false,false,false,false,false,false,false,false,false,false,false,false,false,false] (by kernel_rfl) rfl rfl ⟨hx576_0,hx576_1,hx577_0,hx577_1,hx579_0,hx579_1,hx580_0,hx580_1,hx582_0,hx582_1⟩ (fun hHeld => ?_);refine with_tabW cofferlaw10_PageKeeps.tab21 cofferlaw10_PageKeeps.bits21 (fun HT_ HW_ => ?_)
                   generalize wr.drew = w69 at HO_9 HO_10 HO_11 HB hx576_0 hx576_1 hx577_0 hx577_1 hx579_0 hx579_1 hx580_0 hx580_1 hx582_0 hx582_1 hHeld ⊢
                   refine pure_ (i:=0) (N:=some 162) (v:=?_) (a':=?_) #[true,false,false,false,false,false,false,false,false,false,false,false,false,false,false,false,false,false,false,false,false,false,false,false,false,false,false,false,false,false,false,false,false,false,false,false,false,false,false] rfl rfl (any_of HT_.out (by kernel_rfl)) (fun _ _ _ h => h) (Or.inl ⟨by rfl,?_⟩) ?_ ?_
                   rotate_left
                   ·intro w'
                    go_simp
                    with_reducible rfl
                   rotate_left
                   ·simp only [Act.put,List.setIfInBounds_toArray,List.set_cons_zero,List.set_cons_succ,i64_w,i32_w]
                    rfl
                   refine pure_ (i:=1) (N:=some 163) (v:=?_) (a':=?_) #[true,true,false,false,false,false,false,false,false,false,false,false,false,false,false,false,false,false,false,false,false,false,false,false,false,false,false,false,false,false,false,false,false,false,false,false,false,false,false] rfl rfl (any_of HT_.out (by kernel_rfl)) (fun _ _ _ h => h) (Or.inl ⟨by rfl,?_⟩) ?_ ?_
                   rotate_left
                   ·intro w'
                    go_simp
                    with_reducible rfl
                   rotate_left
                   ·simp only [Act.put,List.setIfInBounds_toArray,List.set_cons_zero,List.set_cons_succ,i64_w,i32_w]
                    rfl
                   refine pure_ (i:=2) (N:=some 164) (v:=?_) (a':=?_) #[true,true,true,false,false,false,false,false,false,false,false,false,false,false,false,false,false,false,false,false,false,false,false,false,false,false,false,false,false,false,false,false,false,false,false,false,false,false,false] rfl rfl (any_of HT_.out (by kernel_rfl)) (fun _ _ _ h => h) (Or.inl ⟨by rfl,?_⟩) ?_ ?_
                   rotate_left
                   ·intro w'
                    go_simp
                    with_reducible rfl
                   rotate_left
                   ·simp only [Act.put,List.setIfInBounds_toArray,List.set_cons_zero,List.set_cons_succ,i64_w,i32_w]
                    rfl
                   refine pure_ (i:=3) (N:=some 165) (v:=?_) (a':=?_) #[true,true,true,true,false,false,false,false,false,false,false,false,false,false,false,false,false,false,false,false,false,false,false,false,false,false,false,false,false,false,false,false,false,false,false,false,false,false,false] rfl rfl (any_of HT_.out (by kernel_rfl)) (fun _ _ _ h => h) (Or.inl ⟨by rfl,?_⟩) ?_ ?_
                   rotate_left
                   ·intro w'
                    go_simp
                    with_reducible rfl
                   rotate_left
                   ·simp only [Act.put,List.setIfInBounds_toArray,List.set_cons_zero,List.set_cons_succ,i64_w,i32_w]
                    rfl
                   refine pure_ (i:=5) (N:=some 167) (v:=?_) (a':=?_) #[true,true,true,true,false,true,false,false,false,false,false,false,false,false,false,false,false,false,false,false,false,false,false,false,false,false,false,false,false,false,false,false,false,false,false,false,false,false,false] rfl rfl (any_of HT_.out (by kernel_rfl)) (fun _ _ _ h => h) (Or.inl ⟨by rfl,?_⟩) ?_ ?_
                   rotate_left
                   ·intro w'
                    go_simp
                    with_reducible rfl
                   rotate_left
                   ·simp only [Act.put,List.setIfInBounds_toArray,List.set_cons_zero,List.set_cons_succ,i64_w,i32_w]
                    rfl
                   refine take_ (i:=4) (N:=some 166) (v:=?_) (a':=?_) #[true,true,true,true,true,true,false,false,false,false,false,false,false,false,false,false,false,false,false,false,false,false,false,false,false,false,false,false,false,false,false,false,false,false,false,false,false,false,false] rfl rfl (take_ofW HT_.out HW_.out (by kernel_rfl)) (fun _ _ _ h => h) (Or.inl ⟨by rfl,?_⟩) hHeld ?_ ?_
                   rotate_left
                   ·rintro w' ⟨s0,s1,s2,s3,s4,s5,s6,s7,s8,s9⟩
                    go_simp
                    with_reducible rfl
                   rotate_left
                   ·simp only [Act.put,List.setIfInBounds_toArray,List.set_cons_zero,List.set_cons_succ,i64_w,i32_w]
                    rfl
                   refine pure_ (i:=6) (N:=some 168) (v:=?_) (a':=?_) #[true,true,true,true,true,true,true,false,false,false,false,false,false,false,false,false,false,false,false,false,false,false,false,false,false,false,false,false,false,false,false,false,false,false,false,false,false,false,false] rfl rfl (any_of HT_.out (by kernel_rfl)) (fun _ _ _ h => h) (Or.inl ⟨by rfl,?_⟩) ?_ ?_
                   rotate_left
                   ·intro w'
                    go_simp
                    with_reducible rfl
                   rotate_left
                   ·simp only [Act.put,List.setIfInBounds_toArray,List.set_cons_zero,List.set_cons_succ,i64_w,i32_w]
                    rfl
                   refine pure_ (i:=7) (N:=some 169) (v:=?_) (a':=?_) #[true,true,true,true,true,true,true,true,false,false,false,false,false,false,false,false,false,false,false,false,false,false,false,false,false,false,false,false,false,false,false,false,false,false,false,false,false,false,false] rfl rfl (any_of HT_.out (by kernel_rfl)) (fun _ _ _ h => h) (Or.inl ⟨by rfl,?_⟩) ?_ ?_
                   rotate_left
                   ·intro w'
                    go_simp
                    with_reducible rfl
                   rotate_left
                   ·simp only [Act.put,List.setIfInBounds_toArray,List.set_cons_zero,List.set_cons_succ,i64_w,i32_w]
                    rfl
                   refine pure_ (i:=8) (N:=some 170) (v:=?_) (a':=?_) #[true,true,true,true,true,true,true,true,true,false,false,false,false,false,false,false,false,false,false,false,false,false,false,false,false,false,false,false,false,false,false,false,false,false,false,false,false,false,false] rfl rfl (any_of HT_.out (by kernel_rfl)) (fun _ _ _ h => h) (Or.inl ⟨by rfl,?_⟩) ?_ ?_
                   rotate_left
                   ·intro w'
                    go_simp
                    with_reducible rfl
                   rotate_left
                   ·simp only [Act.put,List.setIfInBounds_toArray,List.set_cons_zero,List.set_cons_succ,i64_w,i32_w]
                    rfl
                   refine pure_ (i:=9) (N:=some 171) (v:=?_) (a':=?_) #[true,true,true,true,true,true,true,true,true,true,false,false,false,false,false,false,false,false,false,false,false,false,false,false,false,false,false,false,false,false,false,false,false,false,false,false,false,false,false] rfl rfl (any_of HT_.out (by kernel_rfl)) (fun _ _ _ h => h) (Or.inl ⟨by rfl,?_⟩) ?_ ?_
                   rotate_left
                   ·intro w'
                    go_simp
                    with_reducible rfl
                   rotate_left
                   ·simp only [Act.put,List.setIfInBounds_toArray,List.set_cons_zero,List.set_cons_succ,i64_w,i32_w]
                    rfl
                   refine pure_ (i:=10) (N:=some 172) (v:=?_) (a':=?_) #[true,true,true,true,true,true,true,true,true,true,true,false,false,false,false,false,false,false,false,false,false,false,false,false,false,false,false,false,false,false,false,false,false,false,false,false,false,false,false] rfl rfl (any_of HT_.out (by kernel_rfl)) (fun _ _ _ h => h) (Or.inl ⟨by rfl,?_⟩) ?_ ?_
                   rotate_left
                   ·intro w'
                    go_simp
                    with_reducible rfl
                   rotate_left
                   ·simp only [Act.put,List.setIfInBounds_toArray,List.set_cons_zero,List.set_cons_succ,i64_w,i32_w]
                    rfl
                   refine pure_ (i:=11) (N:=some 173) (v:=?_) (a':=?_) #[true,true,true,true,true,true,true,true,true,true,true,true,false,false,false,false,false,false,false,false,false,false,false,false,false,false,false,false,false,false,false,false,false,false,false,false,false,false,false] rfl rfl (any_of HT_.out (by kernel_rfl)) (fun _ _ _ h => h) (Or.inl ⟨by rfl,?_⟩) ?_ ?_
                   rotate_left
                   ·intro w'
                    go_simp
                    with_reducible rfl
                   rotate_left
                   ·simp only [Act.put,List.setIfInBounds_toArray,List.set_cons_zero,List.set_cons_succ,i64_w,i32_w]
                    rfl
                   refine pure_ (i:=12) (N:=some 174) (v:=?_) (a':=?_) #[true,true,true,true,true,true,true,true,true,true,true,true,true,false,false,false,false,false,false,false,false,false,false,false,false,false,false,false,false,false,false,false,false,false,false,false,false,false,false] rfl rfl (any_of HT_.out (by kernel_rfl)) (fun _ _ _ h => h) (Or.inl ⟨by rfl,?_⟩) ?_ ?_
                   rotate_left
                   ·intro w'
                    go_simp
                    with_reducible rfl
                   rotate_left
                   ·simp only [Act.put,List.setIfInBounds_toArray,List.set_cons_zero,List.set_cons_succ,i64_w,i32_w]
                    rfl
                   refine pure_ (i:=15) (N:=some 177) (v:=?_) (a':=?_) #[true,true,true,true,true,true,true,true,true,true,true,true,true,false,false,true,false,false,false,false,false,false,false,false,false,false,false,false,false,false,false,false,false,false,false,false,false,false,false] rfl rfl (any_of HT_.out (by kernel_rfl)) (fun _ _ _ h => h) (Or.inl ⟨by rfl,?_⟩) ?_ ?_
                   rotate_left
                   ·intro w'
                    go_simp
                    with_reducible rfl
                   rotate_left
                   ·simp only [Act.put,List.setIfInBounds_toArray,List.set_cons_zero,List.set_cons_succ,i64_w,i32_w]
                    rfl
                   refine pure_ (i:=16) (N:=some 178) (v:=?_) (a':=?_) #[true,true,true,true,true,true,true,true,true,true,true,true,true,false,false,true,true,false,false,false,false,false,false,false,false,false,false,false,false,false,false,false,false,false,false,false,false,false,false] rfl rfl (any_of HT_.out (by kernel_rfl)) (fun _ _ _ h => h) (Or.inl ⟨by rfl,?_⟩) ?_ ?_
                   rotate_left
                   ·intro w'
                    go_simp
                    with_reducible rfl
                   rotate_left
                   ·simp only [Act.put,List.setIfInBounds_toArray,List.set_cons_zero,List.set_cons_succ,i64_w,i32_w]
                    rfl
                   refine pure_ (i:=17) (N:=some 179) (v:=?_) (a':=?_) #[true,true,true,true,true,true,true,true,true,true,true,true,true,false,false,true,true,true,false,false,false,false,false,false,false,false,false,false,false,false,false,false,false,false,false,false,false,false,false] rfl rfl (any_of HT_.out (by kernel_rfl)) (fun _ _ _ h => h) (Or.inl ⟨by rfl,?_⟩) ?_ ?_
                   rotate_left
                   ·intro w'
                    go_simp
                    with_reducible rfl
                   rotate_left
                   ·simp only [Act.put,List.setIfInBounds_toArray,List.set_cons_zero,List.set_cons_succ,i64_w,i32_w]
                    rfl
                   refine pure_ (i:=18) (N:=some 180) (v:=?_) (a':=?_) #[true,true,true,true,true,true,true,true,true,true,true,true,true,false,false,true,true,true,true,false,false,false,false,false,false,false,false,false,false,false,false,false,false,false,false,false,false,false,false] rfl rfl (any_of HT_.out (by kernel_rfl)) (fun _ _ _ h => h) (Or.inl ⟨by rfl,?_⟩) ?_ ?_
                   rotate_left
                   ·intro w'
                    go_simp
                    with_reducible rfl
                   rotate_left
                   ·simp only [Act.put,List.setIfInBounds_toArray,List.set_cons_zero,List.set_cons_succ,i64_w,i32_w]
                    rfl
                   refine take_ (i:=13) (N:=some 175) (v:=?_) (a':=?_) #[true,true,true,true,true,true,true,true,true,true,true,true,true,true,false,true,true,true,true,false,false,false,false,false,false,false,false,false,false,false,false,false,false,false,false,false,false,false,false] rfl rfl (take_ofW HT_.out HW_.out (by kernel_rfl)) (fun _ _ _ h => h) (Or.inl ⟨by rfl,?_⟩) hHeld ?_ ?_
                   rotate_left
                   ·rintro w' ⟨s0,s1,s2,s3,s4,s5,s6,s7,s8,s9⟩
                    go_simp
                    with_reducible rfl
                   rotate_left
                   ·simp only [Act.put,List.setIfInBounds_toArray,List.set_cons_zero,List.set_cons_succ,i64_w,i32_w]
                    rfl
                   refine take_ (i:=19) (N:=some 181) (v:=?_) (a':=?_) #[true,true,true,true,true,true,true,true,true,true,true,true,true,true,false,true,true,true,true,true,false,false,false,false,false,false,false,false,false,false,false,false,false,false,false,false,false,false,false] rfl rfl (take_ofW HT_.out HW_.out (by kernel_rfl)) (fun _ _ _ h => h) (Or.inl ⟨by rfl,?_⟩) hHeld ?_ ?_
                   rotate_left
                   ·rintro w' ⟨s0,s1,s2,s3,s4,s5,s6,s7,s8,s9⟩
                    go_simp
                    with_reducible rfl
                   rotate_left
                   ·simp only [Act.put,List.setIfInBounds_toArray,List.set_cons_zero,List.set_cons_succ,i64_w,i32_w]
                    rfl
                   refine pure_ (i:=20) (N:=some 182) (v:=?_) (a':=?_) #[true,true,true,true,true,true,true,true,true,true,true,true,true,true,false,true,true,true,true,true,true,false,false,false,false,false,false,false,false,false,false,false,false,false,false,false,false,false,false] rfl rfl (any_of HT_.out (by kernel_rfl)) (fun _ _ _ h => h) (Or.inl ⟨by rfl,?_⟩) ?_ ?_
                   rotate_left
                   ·intro w'
                    go_simp
                    with_reducible rfl
                   rotate_left
                   ·simp only [Act.put,List.setIfInBounds_toArray,List.set_cons_zero,List.set_cons_succ,i64_w,i32_w]
                    rfl
                   refine one_ (i:=14) (N:=some 176) #[true,true,true,true,true,true,true,true,true,true,true,true,true,true,true,true,true,true,true,true,true,false,false,false,false,false,false,false,false,false,false,false,false,false,false,false,false,false,false] rfl rfl (one_of HT_.out (by kernel_rfl)) (by decide) (fun K hK => ?_)
                   refine goes_ Try.func30 (by kernel_rfl) rfl #[.slice Ao17 t547.length co17,.string ((rd_T37 t544 x20_4).f0)] (by rfl) rfl rfl (by (try simp only [List.map_toArray,List.map_cons,List.map_nil]);first|done|rfl|(simp only [List.length_drop,List.length_take];rfl)) ?_
                   with_reducible refine (cofferlaw10_value1.calls k4 _ _ t547 ((rd_T37 t544 x20_4).f0) t578 _ ?side1 ?side2 A64.out).mono ?_
                   (case side1 => repeat (first|exact (Kd.R_reads' HO_10.out).2.2|(with_reducible refine Kd.C_alloc ?_ _)|(with_reducible refine Kd.C_drewN ?_ _)|(with_reducible refine Kd.C_drew ?_)))
                   (case side2 => exact (Kd.R_reads' HO_10.out).2.1)
                   rintro e w70 ⟨rfl,hb⟩
                   have HS0_:=(hb.cell (World.block_lt_of_cell? _ _ (hHeld.1))).trans (hHeld.1)
                   have HS1_:=(hb.cell (World.block_lt_of_cell? _ _ (hHeld.2.1))).trans (hHeld.2.1)
                   have HS2_:=(hb.cell (World.block_lt_of_cell? _ _ (hHeld.2.2.1))).trans (hHeld.2.2.1)
                   have HS3_:=(hb.cell (World.block_lt_of_cell? _ _ (hHeld.2.2.2.1))).trans (hHeld.2.2.2.1)
                   have HS4_:=(hb.cell (World.block_lt_of_cell? _ _ (hHeld.2.2.2.2.1))).trans (hHeld.2.2.2.2.1)
                   have HS5_:=(hb.cell (World.block_lt_of_cell? _ _ (hHeld.2.2.2.2.2.1))).trans (hHeld.2.2.2.2.2.1)
                   have HS6_:=(hb.cell (World.block_lt_of_cell? _ _ (hHeld.2.2.2.2.2.2.1))).trans (hHeld.2.2.2.2.2.2.1)
                   have HS7_:=(hb.cell (World.block_lt_of_cell? _ _ (hHeld.2.2.2.2.2.2.2.1))).trans (hHeld.2.2.2.2.2.2.2.1)
                   have HS8_:=(hb.cell (World.block_lt_of_cell? _ _ (hHeld.2.2.2.2.2.2.2.2.1))).trans (hHeld.2.2.2.2.2.2.2.2.1)
                   have HS9_:=(hb.cell (World.block_lt_of_cell? _ _ (hHeld.2.2.2.2.2.2.2.2.2))).trans (hHeld.2.2.2.2.2.2.2.2.2)
                   refine ⟨_,rfl,?_⟩
                   have n0_:=Aside0.mk (Kd.R_below (by (with_reducible repeat (first|apply Kd.R_alloc|apply Kd.R_drewN|apply Kd.R_drew));exact HO_9.out) hb)
                   have n1_:=Aside0.mk (Kd.R_below (by (with_reducible repeat (first|apply Kd.R_alloc|apply Kd.R_drewN|apply Kd.R_drew));exact HO_10.out) hb)
                   have n2_:=Aside0.mk (Kd.R_below (by (with_reducible repeat (first|apply Kd.R_alloc|apply Kd.R_drewN|apply Kd.R_drew));exact HO_11.out) hb)
                   have n3_:=Aside0.mk (below_step (by repeat (first|(with_reducible first|exact HB.out|apply below_alloc|apply pw_below_drewN|apply below_drew1)|exact HB.out)) hb)
                   clear HO_9
                   clear HO_10
                   clear HO_11
                   clear HB
                   have HO_9:=n0_
                   have HO_10:=n1_
                   have HO_11:=n2_
                   have HB:=n3_
                   clear n0_ n1_ n2_ n3_
                   (try clear hb)
                   (try clear hb2)
                   (try clear hk)
                   (try clear hi)
                   refine hK.out _ _ ⟨HS0_,HS1_,HS2_,HS3_,HS4_,HS5_,HS6_,HS7_,HS8_,HS9_⟩ (fun hHeld => ?_)
                   clear hK K
                   refine norm_ (a':=?_) ?_ ?_
                   rotate_left
                   ·show Act.put _ (some 176) _ = _
                    simp only [Act.put,List.setIfInBounds_toArray,List.set_cons_zero,List.set_cons_succ,i64_w,i32_w]
                    rfl
                   refine pure_ (i:=21) (N:=some 183) (v:=?_) (a':=?_) #[true,true,true,true,true,true,true,true,true,true,true,true,true,true,true,true,true,true,true,true,true,true,false,false,false,false,false,false,false,false,false,false,false,false,false,false,false,false,false] rfl rfl (any_of HT_.out (by kernel_rfl)) (fun _ _ _ h => h) (Or.inl ⟨by rfl,?_⟩) ?_ ?_
                   rotate_left
                   ·intro w'
                    go_simp
                    with_reducible rfl
                   rotate_left
                   ·simp only [Act.put,List.setIfInBounds_toArray,List.set_cons_zero,List.set_cons_succ,i64_w,i32_w]
                    rfl
                   refine pure_ (i:=22) (N:=some 184) (v:=?_) (a':=?_) #[true,true,true,true,true,true,true,true,true,true,true,true,true,true,true,true,true,true,true,true,true,true,true,false,false,false,false,false,false,false,false,false,false,false,false,false,false,false,false] rfl rfl (any_of HT_.out (by kernel_rfl)) (fun _ _ _ h => h) (Or.inl ⟨by rfl,?_⟩) ?_ ?_
                   rotate_left
                   ·intro w'
                    go_simp
                    with_reducible rfl
                   rotate_left
                   ·simp only [Act.put,List.setIfInBounds_toArray,List.set_cons_zero,List.set_cons_succ,i64_w,i32_w]
                    rfl
                   refine pure_ (i:=23) (N:=some 185) (v:=?_) (a':=?_) #[true,true,true,true,true,true,true,true,true,true,true,true,true,true,true,true,true,true,true,true,true,true,true,true,false,false,false,false,false,false,false,false,false,false,false,false,false,false,false] rfl rfl (any_of HT_.out (by kernel_rfl)) (fun _ _ _ h => h) (Or.inl ⟨by rfl,?_⟩) ?_ ?_
                   rotate_left
                   ·intro w'
                    go_simp
                    with_reducible rfl
                   rotate_left
                   ·simp only [Act.put,List.setIfInBounds_toArray,List.set_cons_zero,List.set_cons_succ,i64_w,i32_w]
                    rfl
                   refine pure_ (i:=24) (N:=some 186) (v:=?_) (a':=?_) #[true,true,true,true,true,true,true,true,true,true,true,true,true,true,true,true,true,true,true,true,true,true,true,true,true,false,false,false,false,false,false,false,false,false,false,false,false,false,false] rfl rfl (any_of HT_.out (by kernel_rfl)) (fun _ _ _ h => h) (Or.inl ⟨by rfl,?_⟩) ?_ ?_
                   rotate_left
                   ·intro w'
                    go_simp
                    with_reducible rfl
                   rotate_left
                   ·simp only [Act.put,List.setIfInBounds_toArray,List.set_cons_zero,List.set_cons_succ,i64_w,i32_w]
                    rfl
                   refine pure_ (i:=25) (N:=some 187) (v:=?_) (a':=?_) #[true,true,true,true,true,true,true,true,true,true,true,true,true,true,true,true,true,true,true,true,true,true,true,true,true,true,false,false,false,false,false,false,false,false,false,false,false,false,false] rfl rfl (any_of HT_.out (by kernel_rfl)) (fun _ _ _ h => h) (Or.inl ⟨by rfl,?_⟩) ?_ ?_
                   rotate_left
                   ·intro w'
                    go_simp
                    with_reducible rfl
                   rotate_left
                   ·simp only [Act.put,List.setIfInBounds_toArray,List.set_cons_zero,List.set_cons_succ,i64_w,i32_w]
                    rfl
                   refine pure_ (i:=26) (N:=some 188) (v:=?_) (a':=?_) #[true,true,true,true,true,true,true,true,true,true,true,true,true,true,true,true,true,true,true,true,true,true,true,true,true,true,true,false,false,false,false,false,false,false,false,false,false,false,false] rfl rfl (any_of HT_.out (by kernel_rfl)) (fun _ _ _ h => h) (Or.inl ⟨by rfl,?_⟩) ?_ ?_
                   rotate_left
                   ·intro w'
                    go_simp
                    with_reducible rfl
                   rotate_left
                   ·simp only [Act.put,List.setIfInBounds_toArray,List.set_cons_zero,List.set_cons_succ,i64_w,i32_w]
                    rfl
                   refine pure_ (i:=27) (N:=some 189) (v:=?_) (a':=?_) #[true,true,true,true,true,true,true,true,true,true,true,true,true,true,true,true,true,true,true,true,true,true,true,true,true,true,true,true,false,false,false,false,false,false,false,false,false,false,false] rfl rfl (any_of HT_.out (by kernel_rfl)) (fun _ _ _ h => h) (Or.inl ⟨by rfl,?_⟩) ?_ ?_
                   rotate_left
                   ·intro w'
                    go_simp
                    with_reducible rfl
                   rotate_left
                   ·simp only [Act.put,List.setIfInBounds_toArray,List.set_cons_zero,List.set_cons_succ,i64_w,i32_w]
                    rfl
                   refine pure_ (i:=30) (N:=some 192) (v:=?_) (a':=?_) #[true,true,true,true,true,true,true,true,true,true,true,true,true,true,true,true,true,true,true,true,true,true,true,true,true,true,true,true,false,false,true,false,false,false,false,false,false,false,false] rfl rfl (any_of HT_.out (by kernel_rfl)) (fun _ _ _ h => h) (Or.inl ⟨by rfl,?_⟩) ?_ ?_
                   rotate_left
                   ·intro w'
                    go_simp
                    with_reducible rfl
                   rotate_left
                   ·simp only [Act.put,List.setIfInBounds_toArray,List.set_cons_zero,List.set_cons_succ,i64_w,i32_w]
                    rfl
                   refine pure_ (i:=31) (N:=some 193) (v:=?_) (a':=?_) #[true,true,true,true,true,true,true,true,true,true,true,true,true,true,true,true,true,true,true,true,true,true,true,true,true,true,true,true,false,false,true,true,false,false,false,false,false,false,false] rfl rfl (any_of HT_.out (by kernel_rfl)) (fun _ _ _ h => h) (Or.inl ⟨by rfl,?_⟩) ?_ ?_
                   rotate_left
                   ·intro w'
                    go_simp
                    with_reducible rfl
                   rotate_left
                   ·simp only [Act.put,List.setIfInBounds_toArray,List.set_cons_zero,List.set_cons_succ,i64_w,i32_w]
                    rfl
                   refine pure_ (i:=32) (N:=some 194) (v:=?_) (a':=?_) #[true,true,true,true,true,true,true,true,true,true,true,true,true,true,true,true,true,true,true,true,true,true,true,true,true,true,true,true,false,false,true,true,true,false,false,false,false,false,false] rfl rfl (any_of HT_.out (by kernel_rfl)) (fun _ _ _ h => h) (Or.inl ⟨by rfl,?_⟩) ?_ ?_
                   rotate_left
                   ·intro w'
                    go_simp
                    with_reducible rfl
                   rotate_left
                   ·simp only [Act.put,List.setIfInBounds_toArray,List.set_cons_zero,List.set_cons_succ,i64_w,i32_w]
                    rfl
                   refine pure_ (i:=33) (N:=some 195) (v:=?_) (a':=?_) #[true,true,true,true,true,true,true,true,true,true,true,true,true,true,true,true,true,true,true,true,true,true,true,true,true,true,true,true,false,false,true,true,true,true,false,false,false,false,false] rfl rfl (any_of HT_.out (by kernel_rfl)) (fun _ _ _ h => h) (Or.inl ⟨by rfl,?_⟩) ?_ ?_
                   rotate_left
                   ·intro w'
                    go_simp
                    with_reducible rfl
                   rotate_left
                   ·simp only [Act.put,List.setIfInBounds_toArray,List.set_cons_zero,List.set_cons_succ,i64_w,i32_w]
                    rfl
                   refine take_ (i:=28) (N:=some 190) (v:=?_) (a':=?_) #[true,true,true,true,true,true,true,true,true,true,true,true,true,true,true,true,true,true,true,true,true,true,true,true,true,true,true,true,true,false,true,true,true,true,false,false,false,false,false] rfl rfl (take_ofW HT_.out HW_.out (by kernel_rfl)) (fun _ _ _ h => h) (Or.inl ⟨by rfl,?_⟩) hHeld ?_ ?_
                   rotate_left
                   ·rintro w' ⟨s0,s1,s2,s3,s4,s5,s6,s7,s8,s9⟩
                    go_simp
                    with_reducible rfl
                   rotate_left
                   ·simp only [Act.put,List.setIfInBounds_toArray,List.set_cons_zero,List.set_cons_succ,i64_w,i32_w]
                    rfl
                   refine take_ (i:=34) (N:=some 196) (v:=?_) (a':=?_) #[true,true,true,true,true,true,true,true,true,true,true,true,true,true,true,true,true,true,true,true,true,true,true,true,true,true,true,true,true,false,true,true,true,true,true,false,false,false,false] rfl rfl (take_ofW HT_.out HW_.out (by kernel_rfl)) (fun _ _ _ h => h) (Or.inl ⟨by rfl,?_⟩) hHeld ?_ ?_
                   rotate_left
                   ·rintro w' ⟨s0,s1,s2,s3,s4,s5,s6,s7,s8,s9⟩
                    go_simp
                    with_reducible rfl
                   rotate_left
                   ·simp only [Act.put,List.setIfInBounds_toArray,List.set_cons_zero,List.set_cons_succ,i64_w,i32_w]
                    rfl
                   refine pure_ (i:=35) (N:=some 197) (v:=?_) (a':=?_) #[true,true,true,true,true,true,true,true,true,true,true,true,true,true,true,true,true,true,true,true,true,true,true,true,true,true,true,true,true,false,true,true,true,true,true,true,false,false,false] rfl rfl (any_of HT_.out (by kernel_rfl)) (fun _ _ _ h => h) (Or.inl ⟨by rfl,?_⟩) ?_ ?_
                   rotate_left
                   ·intro w'
                    go_simp
                    with_reducible rfl
                   rotate_left
                   ·simp only [Act.put,List.setIfInBounds_toArray,List.set_cons_zero,List.set_cons_succ,i64_w,i32_w]
                    rfl
                   refine one_ (i:=29) (N:=some 191) #[true,true,true,true,true,true,true,true,true,true,true,true,true,true,true,true,true,true,true,true,true,true,true,true,true,true,true,true,true,true,true,true,true,true,true,true,false,false,false] rfl rfl (one_of HT_.out (by kernel_rfl)) (by decide) (fun K hK => ?_)
                   refine goes_ Try.func30 (by kernel_rfl) rfl #[.slice Ao19 t550.length co19,.string ((rd_T37 t544 x20_4).f0)] (by rfl) rfl rfl (by (try simp only [List.map_toArray,List.map_cons,List.map_nil]);first|done|rfl|(simp only [List.length_drop,List.length_take];rfl)) ?_
                   with_reducible refine (cofferlaw10_value1.calls k4 _ _ t550 ((rd_T37 t544 x20_4).f0) t581 _ ?side1 ?side2 A67.out).mono ?_
                   (case side1 => repeat (first|exact (Kd.R_reads' HO_11.out).2.2|(with_reducible refine Kd.C_alloc ?_ _)|(with_reducible refine Kd.C_drewN ?_ _)|(with_reducible refine Kd.C_drew ?_)))
                   (case side2 => exact (Kd.R_reads' HO_11.out).2.1)
                   rintro e w71 ⟨rfl,hb⟩
                   have HS0_:=(hb.cell (World.block_lt_of_cell? _ _ (hHeld.1))).trans (hHeld.1)
                   have HS1_:=(hb.cell (World.block_lt_of_cell? _ _ (hHeld.2.1))).trans (hHeld.2.1)
                   have HS2_:=(hb.cell (World.block_lt_of_cell? _ _ (hHeld.2.2.1))).trans (hHeld.2.2.1)
                   have HS3_:=(hb.cell (World.block_lt_of_cell? _ _ (hHeld.2.2.2.1))).trans (hHeld.2.2.2.1)
                   have HS4_:=(hb.cell (World.block_lt_of_cell? _ _ (hHeld.2.2.2.2.1))).trans (hHeld.2.2.2.2.1)
                   have HS5_:=(hb.cell (World.block_lt_of_cell? _ _ (hHeld.2.2.2.2.2.1))).trans (hHeld.2.2.2.2.2.1)
                   have HS6_:=(hb.cell (World.block_lt_of_cell? _ _ (hHeld.2.2.2.2.2.2.1))).trans (hHeld.2.2.2.2.2.2.1)
                   have HS7_:=(hb.cell (World.block_lt_of_cell? _ _ (hHeld.2.2.2.2.2.2.2.1))).trans (hHeld.2.2.2.2.2.2.2.1)
                   have HS8_:=(hb.cell (World.block_lt_of_cell? _ _ (hHeld.2.2.2.2.2.2.2.2.1))).trans (hHeld.2.2.2.2.2.2.2.2.1)
                   have HS9_:=(hb.cell (World.block_lt_of_cell? _ _ (hHeld.2.2.2.2.2.2.2.2.2))).trans (hHeld.2.2.2.2.2.2.2.2.2)
                   refine ⟨_,rfl,?_⟩
                   have n0_:=Aside0.mk (Kd.R_below (by (with_reducible repeat (first|apply Kd.R_alloc|apply Kd.R_drewN|apply Kd.R_drew));exact HO_9.out) hb)
                   have n1_:=Aside0.mk (Kd.R_below (by (with_reducible repeat (first|apply Kd.R_alloc|apply Kd.R_drewN|apply Kd.R_drew));exact HO_10.out) hb)
                   have n2_:=Aside0.mk (Kd.R_below (by (with_reducible repeat (first|apply Kd.R_alloc|apply Kd.R_drewN|apply Kd.R_drew));exact HO_11.out) hb)
                   have n3_:=Aside0.mk (below_step (by repeat (first|(with_reducible first|exact HB.out|apply below_alloc|apply pw_below_drewN|apply below_drew1)|exact HB.out)) hb)
                   clear HO_9
                   clear HO_10
                   clear HO_11
                   clear HB
                   have HO_9:=n0_
                   have HO_10:=n1_
                   have HO_11:=n2_
                   have HB:=n3_
                   clear n0_ n1_ n2_ n3_
                   (try clear hb)
                   (try clear hb2)
                   (try clear hk)
                   (try clear hi)
                   refine hK.out _ _ ⟨HS0_,HS1_,HS2_,HS3_,HS4_,HS5_,HS6_,HS7_,HS8_,HS9_⟩ (fun hHeld => ?_)
                   clear hK K
                   refine norm_ (a':=?_) ?_ ?_
                   rotate_left
                   ·show Act.put _ (some 191) _ = _
                    simp only [Act.put,List.setIfInBounds_toArray,List.set_cons_zero,List.set_cons_succ,i64_w,i32_w]
                    rfl
                   refine pure_ (i:=36) (N:=some 198) (v:=?_) (a':=?_) #[true,true,true,true,true,true,true,true,true,true,true,true,true,true,true,true,true,true,true,true,true,true,true,true,true,true,true,true,true,true,true,true,true,true,true,true,true,false,false] rfl rfl (any_of HT_.out (by kernel_rfl)) (fun _ _ _ h => h) (Or.inl ⟨by rfl,?_⟩) ?_ ?_
                   rotate_left
                   ·intro w'
                    go_simp
                    with_reducible rfl
                   rotate_left
                   ·simp only [Act.put,List.setIfInBounds_toArray,List.set_cons_zero,List.set_cons_succ,i64_w,i32_w]
                    rfl
                   refine pure_ (i:=37) (N:=some 199) (v:=?_) (a':=?_) #[true,true,true,true,true,true,true,true,true,true,true,true,true,true,true,true,true,true,true,true,true,true,true,true,true,true,true,true,true,true,true,true,true,true,true,true,true,true,false] rfl rfl (any_of HT_.out (by kernel_rfl)) (fun _ _ _ h => h) (Or.inl ⟨by rfl,?_⟩) ?_ ?_
                   rotate_left
                   ·intro w'
                    go_simp
                    with_reducible rfl
                   rotate_left
                   ·simp only [Act.put,List.setIfInBounds_toArray,List.set_cons_zero,List.set_cons_succ,i64_w,i32_w]
                    rfl
                   refine pure_ (i:=38) (N:=some 200) (v:=?_) (a':=?_) #[true,true,true,true,true,true,true,true,true,true,true,true,true,true,true,true,true,true,true,true,true,true,true,true,true,true,true,true,true,true,true,true,true,true,true,true,true,true,true] rfl rfl (any_of HT_.out (by kernel_rfl)) (fun _ _ _ h => h) (Or.inl ⟨by rfl,?_⟩) ?_ ?_
                   rotate_left
                   ·intro w'
                    go_simp
                    with_reducible rfl
                   rotate_left
                   ·simp only [Act.put,List.setIfInBounds_toArray,List.set_cons_zero,List.set_cons_succ,i64_w,i32_w]
                    rfl
                   refine done_ (done_of HT_.out (by kernel_rfl)) ?_
                   try go_wp2
                   go_roundg k4
                   case measure => have:=HJ11.out;have:=HJ37.out;have:=HK3.out;have:=HK4.out;omega
                   case rel => exact ⟨(wrap64 (x20_4 + 1)),(by first|rfl|(simp;done)|(simp [Go.Proofs.Ytffgodpmmipnkaa.Z.bne_nil,Go.Proofs.Ytffgodpmmipnkaa.Z.beq_nil];done)|(simp [*];done)),H',⟨by have:=HJ11.out;have:=HJ37.out;have:=HK3.out;have:=HK4.out;omega⟩,⟨by (with_reducible repeat (first|apply Kd.R_alloc|apply Kd.R_drewN|apply Kd.R_drew));exact HO_9.out⟩,⟨by (with_reducible repeat (first|apply Kd.R_alloc|apply Kd.R_drewN|apply Kd.R_drew));exact HO_10.out⟩,⟨by (with_reducible repeat (first|apply Kd.R_alloc|apply Kd.R_drewN|apply Kd.R_drew));exact HO_11.out⟩,⟨by repeat (first|(with_reducible first|exact HB.out|apply below_alloc|apply pw_below_drewN|apply below_drew1)|exact HB.out)⟩⟩
                  ·rw [if_neg c68] at H
                   exact absurd H (by simp)
                 ·rw [if_neg c66] at H
                  have c66b0 : (t578.toList == ((⟨#[43]⟩ : ByteArray) ++ ((rd_T37 t544 x20_4).f1)).toList) = false:=beq_eq_false_iff_ne.mpr c66
                  have c66b1 : (t578.toList != ((⟨#[43]⟩ : ByteArray) ++ ((rd_T37 t544 x20_4).f1)).toList) = true:=bne_iff_ne.mpr c66
                  exact absurd H (by simp)
                ·rw [if_neg c65] at H
                 exact absurd H (by simp)
              ·rw [if_neg c61] at H
               exact absurd H (by simp)
             ·rw [if_neg c60] at H
              have c60b0 : decide (x20_4 < (t544.length : Int)) = false:=decide_eq_false c60
              clear c60
              obtain rfl:=Option.some.inj H
              go_wp2
              go_ret
              exact ⟨by first|rfl|(simp [errW_none,errW_some] <;> rfl)|(simp [*,errW_none,errW_some] <;> rfl),by repeat (first|(with_reducible first|exact HB.out|apply below_alloc|apply pw_below_drewN|apply below_drew1)|exact HB.out)⟩
 ·replace c6:=Bool.eq_false_iff.mpr c6
  subst c6
  have H1 : (none) = some r:=by rw [if_neg (show ¬ (false = true) by decide)] at H;exact H
  clear H
  have H:=H1
  clear H1
  exact absurd H (by simp)

end Go.Proofs.Ytffgodpmmipnkaa.X
