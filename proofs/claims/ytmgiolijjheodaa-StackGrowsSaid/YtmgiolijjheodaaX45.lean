-- By a program of this session (wip/xprint.py over the kit's print).
import Derived.Test.YtmgiolijjheodaaX0
import Derived.Test.YtmgiolijjheodaaX7
import Derived.Test.YtmgiolijjheodaaX16
import Derived.Test.YtmgiolijjheodaaX27
import Derived.Test.YtmgiolijjheodaaX29
import Derived.Test.YtmgiolijjheodaaX30
import Derived.Test.YtmgiolijjheodaaX31
import Derived.Test.YtmgiolijjheodaaX41
import Derived.Test.YtmgiolijjheodaaX44
import Derived.Test.YtmgiolijjheodaaRemove
namespace Go.Proofs.Ytmgiolijjheodaa.X
open Go.RowKit Go.Proofs.YtmgiolijjheodaaW.PrintWords Go.Proofs.YtmgiolijjheodaaW.PrintLast Go.Proofs.YtmgiolijjheodaaW.PrintMore
attribute [local go_sem] Go.Proofs.Ytmgiolijjheodaa.Z.leq_string Go.Proofs.Ytmgiolijjheodaa.Z.gtr_string Go.Proofs.Ytmgiolijjheodaa.Z.geq_string   -- for this text's walks alone
set_option linter.unusedVariables false
set_option linter.unusedSimpArgs false

/-! ### cofferlaw14_StackGrows: function 7 -/
mutual
def cofferlaw14_StackGrows.l0 : Nat → List (S25) → List Int → List (S25) → Int → Option (Bool)
 | 0,_,_,_,_ => none
 | k + 1,x0,x1,x5,x6 => if x6 < (x0.length : Int) then (cofferlaw14_StackGrows.j1 k x0 x1 x5 x6 (decide (x6 < 60))) else (cofferlaw14_StackGrows.j1 k x0 x1 x5 x6 false)
def cofferlaw14_StackGrows.j1 : Nat → List (S25) → List Int → List (S25) → Int → Bool → Option (Bool)
 | 0,_,_,_,_,_ => none
 | k + 1,x0,x1,x5,x6,x24 => if x24 = true then (if 0 ≤ x6 then (if x6 < (x0.length : Int) then ((cofferlaw14_own.f ((rd_T25 x0 x6).f0) ((rd_T25 x0 x6).f1) ((rd_T25 x0 x6).f2) ((rd_T25 x0 x6).f3) ((rd_T25 x0 x6).f4)).bind fun bt640 => ((stack_Push.f k x5 bt640.1 bt640.2.1 bt640.2.2.1 bt640.2.2.2.1 bt640.2.2.2.2).bind fun bt647 => (if bt647.2 = 0 then ((stack_Remove.f k bt647.1 ((rd_T25 x0 x6).f1)).bind fun bt652 => (if bt652.2 = 0 then ((cofferlaw14_alike.f k bt652.1 x5).bind fun t656 => (if t656 = true then (if (bt647.1.length : Int) = (wrap64 ((x5.length : Int) + 1)) then (if 0 ≤ (x5.length : Int) then (if (x5.length : Int) ≤ (bt647.1.length : Int) then ((cofferlaw14_alike.f k (bt647.1.take ((x5.length : Int) : Int).toNat) x5).bind fun t661 => (if t661 = true then (if (x5.length : Int) < (bt647.1.length : Int) then ((cofferlaw14_like.f k ((rd_T25 bt647.1 (x5.length : Int)).f0) ((rd_T25 bt647.1 (x5.length : Int)).f1) ((rd_T25 bt647.1 (x5.length : Int)).f2) ((rd_T25 bt647.1 (x5.length : Int)).f3) ((rd_T25 bt647.1 (x5.length : Int)).f4) ((rd_T25 x0 x6).f0) ((rd_T25 x0 x6).f1) ((rd_T25 x0 x6).f2) ((rd_T25 x0 x6).f3) ((rd_T25 x0 x6).f4)).bind fun t664 => (if t664 = true then (cofferlaw14_StackGrows.j2 k x0 x1 bt647.1 x6) else (none))) else (none)) else (none))) else (none)) else (none)) else (none)) else (none))) else (none))) else (if (bt647.1.length : Int) = 0 then (cofferlaw14_StackGrows.j2 k x0 x1 x5 x6) else (none))))) else (none)) else (none)) else (some true)
def cofferlaw14_StackGrows.j2 : Nat → List (S25) → List Int → List (S25) → Int → Option (Bool)
 | 0,_,_,_,_ => none
 | k + 1,x0,x1,x5,x6 => if x6 < (x1.length : Int) then (if 0 ≤ x6 then ((stack_Remove.f k x5 (rd x1 x6)).bind fun bt666 => ((stack_Get.f x5 (rd x1 x6)).bind fun bt671 => (if bt666.2 = 0 then (if bt671.2.2.2.2.2 = 0 then (cofferlaw14_StackGrows.j3 k x0 x1 x5 x6 bt666.1 bt666.2 false) else (cofferlaw14_StackGrows.j3 k x0 x1 x5 x6 bt666.1 bt666.2 true)) else (if bt671.2.2.2.2.2 = 0 then (cofferlaw14_StackGrows.j3 k x0 x1 x5 x6 bt666.1 bt666.2 true) else (cofferlaw14_StackGrows.j3 k x0 x1 x5 x6 bt666.1 bt666.2 (bt666.2 != 72)))))) else (none)) else (cofferlaw14_StackGrows.j4 k x0 x1 x5 x6)
def cofferlaw14_StackGrows.j4 : Nat → List (S25) → List Int → List (S25) → Int → Option (Bool)
 | 0,_,_,_,_ => none
 | k + 1,x0,x1,x5,x6 => (cofferlaw14_right.f k x5).bind fun t685 => (if t685 = true then ((cofferlaw14_told.f k x5).bind fun t686 => (if t686 = true then (cofferlaw14_StackGrows.l0 k x0 x1 x5 (wrap64 (x6 + 1))) else (none))) else (none))
def cofferlaw14_StackGrows.j3 : Nat → List (S25) → List Int → List (S25) → Int → List (S25) → Int → Bool → Option (Bool)
 | 0,_,_,_,_,_,_,_ => none
 | k + 1,x0,x1,x5,x6,x7,x8,x125 => if x125 = true then (none) else (if x8 = 0 then (if 0 ≤ x6 then (if x6 < (x1.length : Int) then ((stack_Remove.f k x7 (rd x1 x6)).bind fun bt681 => (if bt681.2 = 72 then (if (x7.length : Int) = (wrap64 ((x5.length : Int) - 1)) then (cofferlaw14_StackGrows.j4 k x0 x1 x7 x6) else (none)) else (none))) else (none)) else (none)) else (cofferlaw14_StackGrows.j4 k x0 x1 x5 x6))
end
def cofferlaw14_StackGrows.f (k : Nat) (l0 : List (S25)) (l1 : List Int) : Option (Bool):=(cofferlaw14_head.f k).bind fun t638 => (if t638 = true then (cofferlaw14_StackGrows.l0 k l0 l1 ([] : List (S25)) 0) else (none))
theorem cofferlaw14_StackGrows.mono_l : ∀ k,(∀ y0 y1 y2 y3,LeO (cofferlaw14_StackGrows.l0 k y0 y1 y2 y3) (cofferlaw14_StackGrows.l0 (k + 1) y0 y1 y2 y3)) ∧ (∀ y0 y1 y2 y3 y4,LeO (cofferlaw14_StackGrows.j1 k y0 y1 y2 y3 y4) (cofferlaw14_StackGrows.j1 (k + 1) y0 y1 y2 y3 y4)) ∧ (∀ y0 y1 y2 y3,LeO (cofferlaw14_StackGrows.j2 k y0 y1 y2 y3) (cofferlaw14_StackGrows.j2 (k + 1) y0 y1 y2 y3)) ∧ (∀ y0 y1 y2 y3,LeO (cofferlaw14_StackGrows.j4 k y0 y1 y2 y3) (cofferlaw14_StackGrows.j4 (k + 1) y0 y1 y2 y3)) ∧ (∀ y0 y1 y2 y3 y4 y5 y6,LeO (cofferlaw14_StackGrows.j3 k y0 y1 y2 y3 y4 y5 y6) (cofferlaw14_StackGrows.j3 (k + 1) y0 y1 y2 y3 y4 y5 y6))
 | 0 => ⟨fun _ _ _ _ r h => by simp [cofferlaw14_StackGrows.l0] at h,fun _ _ _ _ _ r h => by simp [cofferlaw14_StackGrows.j1] at h,fun _ _ _ _ r h => by simp [cofferlaw14_StackGrows.j2] at h,fun _ _ _ _ r h => by simp [cofferlaw14_StackGrows.j4] at h,fun _ _ _ _ _ _ _ r h => by simp [cofferlaw14_StackGrows.j3] at h⟩
 | k + 1 => by
  obtain ⟨ih0,ih1,ih2,ih3,ih4⟩:=cofferlaw14_StackGrows.mono_l k
  refine ⟨?_,?_,?_,?_,?_⟩
  ·intro y0 y1 y2 y3
   unfold cofferlaw14_StackGrows.l0
   repeat' first
   | (with_reducible exact ih0 _ _ _ _)
   | (with_reducible exact ih1 _ _ _ _ _)
   | (with_reducible exact ih2 _ _ _ _)
   | (with_reducible exact ih3 _ _ _ _)
   | (with_reducible exact ih4 _ _ _ _ _ _ _)
   | (with_reducible exact cofferlaw14_alike.mono _ _ _)
   | (with_reducible exact cofferlaw14_head.mono _)
   | (with_reducible exact cofferlaw14_like.mono _ _ _ _ _ _ _ _ _ _ _)
   | (with_reducible exact cofferlaw14_right.mono _ _)
   | (with_reducible exact cofferlaw14_told.mono _ _)
   | (with_reducible exact stack_Push.mono _ _ _ _ _ _ _)
   | (with_reducible exact stack_Remove.mono _ _ _)
   | (with_reducible exact LeO.refl _)
   | (with_reducible exact LeO.none _)
   | (with_reducible refine LeO.ite ?_ ?_)
   | (with_reducible refine LeO.bind ?_ (fun _ => ?_))
   | exact ih0 _ _ _ _
   | exact ih1 _ _ _ _ _
   | exact ih2 _ _ _ _
   | exact ih3 _ _ _ _
   | exact ih4 _ _ _ _ _ _ _
   | exact cofferlaw14_alike.mono _ _ _
   | exact cofferlaw14_head.mono _
   | exact cofferlaw14_like.mono _ _ _ _ _ _ _ _ _ _ _
   | exact cofferlaw14_right.mono _ _
   | exact cofferlaw14_told.mono _ _
   | exact stack_Push.mono _ _ _ _ _ _ _
   | exact stack_Remove.mono _ _ _
   | exact LeO.none _
   | refine LeO.ite ?_ ?_
   | refine LeO.bind ?_ (fun _ => ?_)
  ·intro y0 y1 y2 y3 y4
   unfold cofferlaw14_StackGrows.j1
   repeat' first
   | (with_reducible exact ih0 _ _ _ _)
   | (with_reducible exact ih1 _ _ _ _ _)
   | (with_reducible exact ih2 _ _ _ _)
   | (with_reducible exact ih3 _ _ _ _)
   | (with_reducible exact ih4 _ _ _ _ _ _ _)
   | (with_reducible exact cofferlaw14_alike.mono _ _ _)
   | (with_reducible exact cofferlaw14_head.mono _)
   | (with_reducible exact cofferlaw14_like.mono _ _ _ _ _ _ _ _ _ _ _)
   | (with_reducible exact cofferlaw14_right.mono _ _)
   | (with_reducible exact cofferlaw14_told.mono _ _)
   | (with_reducible exact stack_Push.mono _ _ _ _ _ _ _)
   | (with_reducible exact stack_Remove.mono _ _ _)
   | (with_reducible exact LeO.refl _)
   | (with_reducible exact LeO.none _)
   | (with_reducible refine LeO.ite ?_ ?_)
   | (with_reducible refine LeO.bind ?_ (fun _ => ?_))
   | exact ih0 _ _ _ _
   | exact ih1 _ _ _ _ _
   | exact ih2 _ _ _ _
   | exact ih3 _ _ _ _
   | exact ih4 _ _ _ _ _ _ _
   | exact cofferlaw14_alike.mono _ _ _
   | exact cofferlaw14_head.mono _
   | exact cofferlaw14_like.mono _ _ _ _ _ _ _ _ _ _ _
   | exact cofferlaw14_right.mono _ _
   | exact cofferlaw14_told.mono _ _
   | exact stack_Push.mono _ _ _ _ _ _ _
   | exact stack_Remove.mono _ _ _
   | exact LeO.none _
   | refine LeO.ite ?_ ?_
   | refine LeO.bind ?_ (fun _ => ?_)
  ·intro y0 y1 y2 y3
   unfold cofferlaw14_StackGrows.j2
   repeat' first
   | (with_reducible exact ih0 _ _ _ _)
   | (with_reducible exact ih1 _ _ _ _ _)
   | (with_reducible exact ih2 _ _ _ _)
   | (with_reducible exact ih3 _ _ _ _)
   | (with_reducible exact ih4 _ _ _ _ _ _ _)
   | (with_reducible exact cofferlaw14_alike.mono _ _ _)
   | (with_reducible exact cofferlaw14_head.mono _)
   | (with_reducible exact cofferlaw14_like.mono _ _ _ _ _ _ _ _ _ _ _)
   | (with_reducible exact cofferlaw14_right.mono _ _)
   | (with_reducible exact cofferlaw14_told.mono _ _)
   | (with_reducible exact stack_Push.mono _ _ _ _ _ _ _)
   | (with_reducible exact stack_Remove.mono _ _ _)
   | (with_reducible exact LeO.refl _)
   | (with_reducible exact LeO.none _)
   | (with_reducible refine LeO.ite ?_ ?_)
   | (with_reducible refine LeO.bind ?_ (fun _ => ?_))
   | exact ih0 _ _ _ _
   | exact ih1 _ _ _ _ _
   | exact ih2 _ _ _ _
   | exact ih3 _ _ _ _
   | exact ih4 _ _ _ _ _ _ _
   | exact cofferlaw14_alike.mono _ _ _
   | exact cofferlaw14_head.mono _
   | exact cofferlaw14_like.mono _ _ _ _ _ _ _ _ _ _ _
   | exact cofferlaw14_right.mono _ _
   | exact cofferlaw14_told.mono _ _
   | exact stack_Push.mono _ _ _ _ _ _ _
   | exact stack_Remove.mono _ _ _
   | exact LeO.none _
   | refine LeO.ite ?_ ?_
   | refine LeO.bind ?_ (fun _ => ?_)
  ·intro y0 y1 y2 y3
   unfold cofferlaw14_StackGrows.j4
   repeat' first
   | (with_reducible exact ih0 _ _ _ _)
   | (with_reducible exact ih1 _ _ _ _ _)
   | (with_reducible exact ih2 _ _ _ _)
   | (with_reducible exact ih3 _ _ _ _)
   | (with_reducible exact ih4 _ _ _ _ _ _ _)
   | (with_reducible exact cofferlaw14_alike.mono _ _ _)
   | (with_reducible exact cofferlaw14_head.mono _)
   | (with_reducible exact cofferlaw14_like.mono _ _ _ _ _ _ _ _ _ _ _)
   | (with_reducible exact cofferlaw14_right.mono _ _)
   | (with_reducible exact cofferlaw14_told.mono _ _)
   | (with_reducible exact stack_Push.mono _ _ _ _ _ _ _)
   | (with_reducible exact stack_Remove.mono _ _ _)
   | (with_reducible exact LeO.refl _)
   | (with_reducible exact LeO.none _)
   | (with_reducible refine LeO.ite ?_ ?_)
   | (with_reducible refine LeO.bind ?_ (fun _ => ?_))
   | exact ih0 _ _ _ _
   | exact ih1 _ _ _ _ _
   | exact ih2 _ _ _ _
   | exact ih3 _ _ _ _
   | exact ih4 _ _ _ _ _ _ _
   | exact cofferlaw14_alike.mono _ _ _
   | exact cofferlaw14_head.mono _
   | exact cofferlaw14_like.mono _ _ _ _ _ _ _ _ _ _ _
   | exact cofferlaw14_right.mono _ _
   | exact cofferlaw14_told.mono _ _
   | exact stack_Push.mono _ _ _ _ _ _ _
   | exact stack_Remove.mono _ _ _
   | exact LeO.none _
   | refine LeO.ite ?_ ?_
   | refine LeO.bind ?_ (fun _ => ?_)
  ·intro y0 y1 y2 y3 y4 y5 y6
   unfold cofferlaw14_StackGrows.j3
   repeat' first
   | (with_reducible exact ih0 _ _ _ _)
   | (with_reducible exact ih1 _ _ _ _ _)
   | (with_reducible exact ih2 _ _ _ _)
   | (with_reducible exact ih3 _ _ _ _)
   | (with_reducible exact ih4 _ _ _ _ _ _ _)
   | (with_reducible exact cofferlaw14_alike.mono _ _ _)
   | (with_reducible exact cofferlaw14_head.mono _)
   | (with_reducible exact cofferlaw14_like.mono _ _ _ _ _ _ _ _ _ _ _)
   | (with_reducible exact cofferlaw14_right.mono _ _)
   | (with_reducible exact cofferlaw14_told.mono _ _)
   | (with_reducible exact stack_Push.mono _ _ _ _ _ _ _)
   | (with_reducible exact stack_Remove.mono _ _ _)
   | (with_reducible exact LeO.refl _)
   | (with_reducible exact LeO.none _)
   | (with_reducible refine LeO.ite ?_ ?_)
   | (with_reducible refine LeO.bind ?_ (fun _ => ?_))
   | exact ih0 _ _ _ _
   | exact ih1 _ _ _ _ _
   | exact ih2 _ _ _ _
   | exact ih3 _ _ _ _
   | exact ih4 _ _ _ _ _ _ _
   | exact cofferlaw14_alike.mono _ _ _
   | exact cofferlaw14_head.mono _
   | exact cofferlaw14_like.mono _ _ _ _ _ _ _ _ _ _ _
   | exact cofferlaw14_right.mono _ _
   | exact cofferlaw14_told.mono _ _
   | exact stack_Push.mono _ _ _ _ _ _ _
   | exact stack_Remove.mono _ _ _
   | exact LeO.none _
   | refine LeO.ite ?_ ?_
   | refine LeO.bind ?_ (fun _ => ?_)
theorem cofferlaw14_StackGrows.mono : ∀ a0 a1 k,LeO (cofferlaw14_StackGrows.f k a0 a1) (cofferlaw14_StackGrows.f (k + 1) a0 a1):=by
 intro a0 a1 k
 obtain ⟨ih0,ih1,ih2,ih3,ih4⟩:=cofferlaw14_StackGrows.mono_l k
 unfold cofferlaw14_StackGrows.f
 repeat' first
  | (with_reducible exact ih0 _ _ _ _)
  | (with_reducible exact ih1 _ _ _ _ _)
  | (with_reducible exact ih2 _ _ _ _)
  | (with_reducible exact ih3 _ _ _ _)
  | (with_reducible exact ih4 _ _ _ _ _ _ _)
  | (with_reducible exact cofferlaw14_alike.mono _ _ _)
  | (with_reducible exact cofferlaw14_head.mono _)
  | (with_reducible exact cofferlaw14_like.mono _ _ _ _ _ _ _ _ _ _ _)
  | (with_reducible exact cofferlaw14_right.mono _ _)
  | (with_reducible exact cofferlaw14_told.mono _ _)
  | (with_reducible exact stack_Push.mono _ _ _ _ _ _ _)
  | (with_reducible exact stack_Remove.mono _ _ _)
  | (with_reducible exact LeO.refl _)
  | (with_reducible exact LeO.none _)
  | (with_reducible refine LeO.ite ?_ ?_)
  | (with_reducible refine LeO.bind ?_ (fun _ => ?_))
  | exact ih0 _ _ _ _
  | exact ih1 _ _ _ _ _
  | exact ih2 _ _ _ _
  | exact ih3 _ _ _ _
  | exact ih4 _ _ _ _ _ _ _
  | exact cofferlaw14_alike.mono _ _ _
  | exact cofferlaw14_head.mono _
  | exact cofferlaw14_like.mono _ _ _ _ _ _ _ _ _ _ _
  | exact cofferlaw14_right.mono _ _
  | exact cofferlaw14_told.mono _ _
  | exact stack_Push.mono _ _ _ _ _ _ _
  | exact stack_Remove.mono _ _ _
  | exact LeO.none _
  | refine LeO.ite ?_ ?_
  | refine LeO.bind ?_ (fun _ => ?_)
def cofferlaw14_StackGrows.T10 : Bool × List (List Nat × List Nat):=(true,[([],[]),([0],[0]),([1],[1]),([2],[2]),([2],[2]),([3,4,2,2],[2,3,4]),([5,2],[2,5]),([2,6],[2,6]),([7,5],[7]),([8],[8]),([9,8],[8,9]),([8],[8]),([11,8],[8,11]),([12,8],[8,12]),([10,13,8],[8,10,13]),([8,14],[8,14]),([15,8],[15]),([16],[16]),([16],[16]),([18,16],[16,18]),([17,19,16],[16,17,19]),([16],[16]),([20,21,16,16],[16,20,21]),([22,16],[16,22]),([16,23],[16,23]),([24,22],[24]),([25],[25]),([25],[25]),([27,25],[25,27]),([26,28,25],[25,26,28]),([29,25],[25,29]),([25],[25]),([25],[25]),([31,32,25],[25,31,32]),([33,25],[25,33]),([30,34,25,25],[25,30,34]),([35,25],[25,35]),([25,36],[25,36])])
def cofferlaw14_StackGrows.B10 : List Nat:=[0,1,3,7,7,31,63,127,255,511,1023,511,2559,6655,16383,32767,65535,131071,131071,393215,1048575,131071,4194303,8388607,16777215,33554431,67108863,67108863,201326591,536870911,1073741823,67108863,67108863,6509559807,15099494399,34359738367,68719476735,137438953471]
theorem cofferlaw14_StackGrows.tab10 : rtab .any (opsOf Try.f7 10) = cofferlaw14_StackGrows.T10:=by kernel_rfl
theorem cofferlaw14_StackGrows.bits10 : waitsOk cofferlaw14_StackGrows.T10.2 cofferlaw14_StackGrows.B10 = true:=by kernel_rfl
theorem cofferlaw14_StackGrows.j3_true (k : Nat) (y0) (y1) (y2) (y3) (y4) (y5) : cofferlaw14_StackGrows.j3 k y0 y1 y2 y3 y4 y5 true = none:=by cases k <;> simp [cofferlaw14_StackGrows.j3]
set_option maxHeartbeats 8000000 in
set_option maxRecDepth 100000 in
theorem cofferlaw14_StackGrows.calls (k : Nat) (A0 : Option Addr) (c0 : Nat) (l0 : List (S25)) (A1 : Option Addr) (c1 : Nat) (l1 : List Int) (r : Bool) (w : World) (hr0 : Kd.C k25 w A0 l0.length l0) (hc0 : l0.length ≤ c0) (hr1 : Kd.C (Kd.int .i64) w A1 l1.length l1) (hc1 : l1.length ≤ c1) (h : cofferlaw14_StackGrows.f k l0 l1 = some r) :
 Calls Try.prog 7 #[.slice A0 l0.length c0,.slice A1 l1.length c1] w fun e w' => e = .returned (.bool r) ∧ Below w.heap.size w w':=by
 have hu25:=Try.underlying25
 have HR0:=Aside0.mk hr0
 have HC0:=Aside0.mk hc0
 clear hr0 hc0
 have HR1:=Aside0.mk hr1
 have HC1:=Aside0.mk hc1
 clear hr1 hc1
 have HB:=Aside0.mk (Below.refl w.heap.size w)
 have H : ((cofferlaw14_head.f k).bind fun t638 => (if t638 = true then (cofferlaw14_StackGrows.l0 k l0 l1 ([] : List (S25)) 0) else (none))) = some r:=h
 clear h
 replace H:=Option.bind_eq_some_iff.mp H
 obtain ⟨t638,A30,H⟩:=H
 replace H : (if t638 = true then (cofferlaw14_StackGrows.l0 k l0 l1 ([] : List (S25)) 0) else (none)) = some r:=H
 have A3:=Aside0.mk A30
 clear A30
 by_cases c4 : t638 = true
 ·subst c4
  have H1 : (cofferlaw14_StackGrows.l0 k l0 l1 ([] : List (S25)) 0) = some r:=by rw [if_pos rfl] at H;exact H
  clear H
  have H:=H1
  clear H1
  have H':=Aside0.mk H
  clear H
  go_enter Try.func7,Try.ntmps7
  go_wp2_with (first|((with_reducible refine gate_callee (f:=8) rfl ?_);refine goesL_ (some 15) rfl rfl Try.func8 (by kernel_rfl) rfl #[] rfl (by (try simp only [List.map_toArray,List.map_cons,List.map_nil]);first|done|rfl|(simp only [List.length_drop,List.length_take];rfl)) ?_;(with_reducible refine (cofferlaw14_head.calls k  true _ A3.out).mono ?_);rintro e w5 ⟨rfl,hb⟩;refine ⟨_,rfl,?_⟩;have n0_:=Aside0.mk (below_step (by repeat (first|(with_reducible first|exact HB.out|apply below_alloc|apply pw_below_drewN|apply below_drew1)|exact HB.out)) hb);clear HB;have HB:=n0_;clear n0_;(try clear hb);(try clear hb2);(try clear hk);(try clear hi)))
  go_loopg [5,6] k (fun kq v5 v6 w' => ∃ (x5_1 : List (S25)) (x6_1 : Int),v6 = .int .i64 x6_1 ∧ Aside0 (cofferlaw14_StackGrows.l0 kq l0 l1 x5_1 x6_1 = some r) ∧ Aside0 (kq ≤ k) ∧ Aside0 (Kd.S k25 25 w' w.heap.size (fun _ => True) v5 x5_1) ∧ Aside0 (Below w.heap.size w w'))
  case atStart => exact ⟨(([] : List (S25))),(0),(by first|rfl|(simp;done)|(simp [Go.Proofs.Ytmgiolijjheodaa.Z.bne_nil,Go.Proofs.Ytmgiolijjheodaa.Z.beq_nil];done)|(simp [*];done)),H',⟨Nat.le_refl _⟩,⟨by first|exact Kd.S_nil _ _ _ _ _|exact Kd.N_nil _ _ _ _ _|exact Kd.V_nil _ _ _ _ _|exact Kd.Q_nil _ _ _ _ _|exact Kd.R_nil _ _ _ _ _⟩,⟨by repeat (first|(with_reducible first|exact HB.out|apply below_alloc|apply pw_below_drewN|apply below_drew1)|exact HB.out)⟩⟩
  case round =>
   clear H'
   try clear c1
   try clear p2
   try clear c4
   obtain ⟨x5_1,x6_1,rfl,HA,HK1,HO_5,HB⟩:=hrel
   cases gk with
   | zero => exact absurd HA.out (by simp [cofferlaw14_StackGrows.l0])
   | succ k1 =>
    have H:=HA.out
    clear HA
    simp only [cofferlaw14_StackGrows.l0] at H
    have HC6:=Aside0.mk H
    clear H
    go_upto_region 5 with (fail)
    go_cut [24] (fun v24 wc => ∃ (kq : Nat) (x24_5 : Bool),v24 = .bool x24_5 ∧ Aside0 (cofferlaw14_StackGrows.j1 kq l0 l1 x5_1 x6_1 x24_5 = some r) ∧ Aside0 (kq ≤ k1) ∧ Aside0 (Kd.S k25 25 wc w.heap.size (fun _ => True) u5 x5_1) ∧ Aside0 (Below w.heap.size w wc))
    case first =>
     have H:=HC6.out
     clear HC6
     by_cases c7 : x6_1 < (l0.length : Int)
     ·rw [if_pos c7] at H
      have c7b0 : decide (x6_1 < (l0.length : Int)) = true:=decide_eq_true c7
      clear c7
      (first|rw [c7b0]|(simp only [i64_w,i32_w];rw [c7b0])|rw [c7b1]|skip)
      have H':=Aside0.mk H
      clear H
      go_wp2
      go_meet
      case rel => exact ⟨_,(decide (x6_1 < 60)),(by first|rfl|(simp;done)|(simp [Go.Proofs.Ytmgiolijjheodaa.Z.bne_nil,Go.Proofs.Ytmgiolijjheodaa.Z.beq_nil];done)|(simp [*];done)),H',⟨by have:=HK1.out;first|omega|exact Nat.le_refl _⟩,⟨by (with_reducible repeat (first|apply Kd.S_alloc|apply Kd.S_drewN|apply Kd.S_drew));exact HO_5.out⟩,⟨by repeat (first|(with_reducible first|exact HB.out|apply below_alloc|apply pw_below_drewN|apply below_drew1)|exact HB.out)⟩⟩
     ·rw [if_neg c7] at H
      have c7b0 : decide (x6_1 < (l0.length : Int)) = false:=decide_eq_false c7
      clear c7
      (first|rw [c7b0]|(simp only [i64_w,i32_w];rw [c7b0])|rw [c7b1]|skip)
      have H':=Aside0.mk H
      clear H
      go_wp2
      go_meet
      case rel => exact ⟨_,(false),(by first|rfl|(simp;done)|(simp [Go.Proofs.Ytmgiolijjheodaa.Z.bne_nil,Go.Proofs.Ytmgiolijjheodaa.Z.beq_nil];done)|(simp [*];done)),H',⟨by have:=HK1.out;first|omega|exact Nat.le_refl _⟩,⟨by (with_reducible repeat (first|apply Kd.S_alloc|apply Kd.S_drewN|apply Kd.S_drew));exact HO_5.out⟩,⟨by repeat (first|(with_reducible first|exact HB.out|apply below_alloc|apply pw_below_drewN|apply below_drew1)|exact HB.out)⟩⟩
    case rest =>
     clear HC6
     try clear c1
     try clear p2
     try clear c4
     try clear c7
     try clear c7b0
     try clear c7b1
     try clear p2
     obtain ⟨kq,x24_5,rfl,HA,HJ5,HO_5,HB⟩:=hcut
     cases kq with
     | zero => exact absurd HA.out (by simp [cofferlaw14_StackGrows.j1])
     | succ kj5 =>
      have H:=HA.out
      clear HA
      simp only [cofferlaw14_StackGrows.j1] at H
      by_cases c8 : x24_5 = true
      ·subst c8
       have H1 : (if 0 ≤ x6_1 then (if x6_1 < (l0.length : Int) then ((cofferlaw14_own.f ((rd_T25 l0 x6_1).f0) ((rd_T25 l0 x6_1).f1) ((rd_T25 l0 x6_1).f2) ((rd_T25 l0 x6_1).f3) ((rd_T25 l0 x6_1).f4)).bind fun bt640 => ((stack_Push.f kj5 x5_1 bt640.1 bt640.2.1 bt640.2.2.1 bt640.2.2.2.1 bt640.2.2.2.2).bind fun bt647 => (if bt647.2 = 0 then ((stack_Remove.f kj5 bt647.1 ((rd_T25 l0 x6_1).f1)).bind fun bt652 => (if bt652.2 = 0 then ((cofferlaw14_alike.f kj5 bt652.1 x5_1).bind fun t656 => (if t656 = true then (if (bt647.1.length : Int) = (wrap64 ((x5_1.length : Int) + 1)) then (if 0 ≤ (x5_1.length : Int) then (if (x5_1.length : Int) ≤ (bt647.1.length : Int) then ((cofferlaw14_alike.f kj5 (bt647.1.take ((x5_1.length : Int) : Int).toNat) x5_1).bind fun t661 => (if t661 = true then (if (x5_1.length : Int) < (bt647.1.length : Int) then ((cofferlaw14_like.f kj5 ((rd_T25 bt647.1 (x5_1.length : Int)).f0) ((rd_T25 bt647.1 (x5_1.length : Int)).f1) ((rd_T25 bt647.1 (x5_1.length : Int)).f2) ((rd_T25 bt647.1 (x5_1.length : Int)).f3) ((rd_T25 bt647.1 (x5_1.length : Int)).f4) ((rd_T25 l0 x6_1).f0) ((rd_T25 l0 x6_1).f1) ((rd_T25 l0 x6_1).f2) ((rd_T25 l0 x6_1).f3) ((rd_T25 l0 x6_1).f4)).bind fun t664 => (if t664 = true then (cofferlaw14_StackGrows.j2 kj5 l0 l1 bt647.1 x6_1) else (none))) else (none)) else (none))) else (none)) else (none)) else (none)) else (none))) else (none))) else (if (bt647.1.length : Int) = 0 then (cofferlaw14_StackGrows.j2 kj5 l0 l1 x5_1 x6_1) else (none))))) else (none)) else (none)) = some r:=by rw [if_pos rfl] at H;exact H
       clear H
       have H:=H1
       clear H1
       by_cases c9 : 0 ≤ x6_1
       ·rw [if_pos c9] at H
        have c9b0 : decide (0 ≤ x6_1) = true:=decide_eq_true c9
        clear c9
        by_cases c10 : x6_1 < (l0.length : Int)
        ·rw [if_pos c10] at H
         have c10b0 : decide (x6_1 < (l0.length : Int)) = true:=decide_eq_true c10
         clear c10
         replace H:=Option.bind_eq_some_iff.mp H
         obtain ⟨⟨t640,t641,t642,t643,t644⟩,A110,H⟩:=H
         replace H : ((stack_Push.f kj5 x5_1 t640 t641 t642 t643 t644).bind fun bt647 => (if bt647.2 = 0 then ((stack_Remove.f kj5 bt647.1 ((rd_T25 l0 x6_1).f1)).bind fun bt652 => (if bt652.2 = 0 then ((cofferlaw14_alike.f kj5 bt652.1 x5_1).bind fun t656 => (if t656 = true then (if (bt647.1.length : Int) = (wrap64 ((x5_1.length : Int) + 1)) then (if 0 ≤ (x5_1.length : Int) then (if (x5_1.length : Int) ≤ (bt647.1.length : Int) then ((cofferlaw14_alike.f kj5 (bt647.1.take ((x5_1.length : Int) : Int).toNat) x5_1).bind fun t661 => (if t661 = true then (if (x5_1.length : Int) < (bt647.1.length : Int) then ((cofferlaw14_like.f kj5 ((rd_T25 bt647.1 (x5_1.length : Int)).f0) ((rd_T25 bt647.1 (x5_1.length : Int)).f1) ((rd_T25 bt647.1 (x5_1.length : Int)).f2) ((rd_T25 bt647.1 (x5_1.length : Int)).f3) ((rd_T25 bt647.1 (x5_1.length : Int)).f4) ((rd_T25 l0 x6_1).f0) ((rd_T25 l0 x6_1).f1) ((rd_T25 l0 x6_1).f2) ((rd_T25 l0 x6_1).f3) ((rd_T25 l0 x6_1).f4)).bind fun t664 => (if t664 = true then (cofferlaw14_StackGrows.j2 kj5 l0 l1 bt647.1 x6_1) else (none))) else (none)) else (none))) else (none)) else (none)) else (none)) else (none))) else (none))) else (if (bt647.1.length : Int) = 0 then (cofferlaw14_StackGrows.j2 kj5 l0 l1 x5_1 x6_1) else (none)))) = some r:=H
         have A11:=Aside0.mk A110
         clear A110
         replace H:=Option.bind_eq_some_iff.mp H
         obtain ⟨⟨t647,t650⟩,A120,H⟩:=H
         replace H : (if t650 = 0 then ((stack_Remove.f kj5 t647 ((rd_T25 l0 x6_1).f1)).bind fun bt652 => (if bt652.2 = 0 then ((cofferlaw14_alike.f kj5 bt652.1 x5_1).bind fun t656 => (if t656 = true then (if (t647.length : Int) = (wrap64 ((x5_1.length : Int) + 1)) then (if 0 ≤ (x5_1.length : Int) then (if (x5_1.length : Int) ≤ (t647.length : Int) then ((cofferlaw14_alike.f kj5 (t647.take ((x5_1.length : Int) : Int).toNat) x5_1).bind fun t661 => (if t661 = true then (if (x5_1.length : Int) < (t647.length : Int) then ((cofferlaw14_like.f kj5 ((rd_T25 t647 (x5_1.length : Int)).f0) ((rd_T25 t647 (x5_1.length : Int)).f1) ((rd_T25 t647 (x5_1.length : Int)).f2) ((rd_T25 t647 (x5_1.length : Int)).f3) ((rd_T25 t647 (x5_1.length : Int)).f4) ((rd_T25 l0 x6_1).f0) ((rd_T25 l0 x6_1).f1) ((rd_T25 l0 x6_1).f2) ((rd_T25 l0 x6_1).f3) ((rd_T25 l0 x6_1).f4)).bind fun t664 => (if t664 = true then (cofferlaw14_StackGrows.j2 kj5 l0 l1 t647 x6_1) else (none))) else (none)) else (none))) else (none)) else (none)) else (none)) else (none))) else (none))) else (if (t647.length : Int) = 0 then (cofferlaw14_StackGrows.j2 kj5 l0 l1 x5_1 x6_1) else (none))) = some r:=H
         have A12:=Aside0.mk A120
         clear A120
         have HC13:=Aside0.mk H
         clear H
         have p639 : 0 ≤ (x6_1 : Int):=of_decide_eq_true (by first|(with_reducible assumption)|assumption)
         have q639 : x6_1 < (l0.length : Int):=of_decide_eq_true (by first|(with_reducible assumption)|assumption)
         obtain ⟨ad639,A639_4,c639_4,e639,hx639_0,hx639_1,hx639_2,hx639_3,hx639_4,hl639_4,hi639_4⟩:=at_T25 HR0.out x6_1 p639 q639
         cases e639
         replace hx639_0:=(HB.out.cell (World.block_lt_of_cell? w _ hx639_0)).trans hx639_0
         replace hx639_1:=(HB.out.cell (World.block_lt_of_cell? w _ hx639_1)).trans hx639_1
         replace hx639_2:=(HB.out.cell (World.block_lt_of_cell? w _ hx639_2)).trans hx639_2
         replace hx639_3:=(HB.out.cell (World.block_lt_of_cell? w _ hx639_3)).trans hx639_3
         replace hx639_4:=(HB.out.cell (World.block_lt_of_cell? w _ hx639_4)).trans hx639_4
         have HR639_4:=Aside0.mk hi639_4
         have HC639_4:=Aside0.mk hl639_4
         clear hi639_4 hl639_4
         replace p639:=eq_true p639
         replace q639:=eq_true q639
         go_upto_if 38 with (first|((with_reducible refine gate_callee (f:=24) rfl ?_);refine goesL_ (some 33) rfl rfl Try.func24 (by kernel_rfl) rfl #[.agg #[.string ((rd_T25 l0 x6_1).f0),.int .i64 ((rd_T25 l0 x6_1).f1),.bool ((rd_T25 l0 x6_1).f2),.string ((rd_T25 l0 x6_1).f3),.slice A639_4 ((rd_T25 l0 x6_1).f4).length c639_4]] rfl (by (try simp only [List.map_toArray,List.map_cons,List.map_nil]);first|done|rfl|(simp only [List.length_drop,List.length_take];rfl)) ?_;(with_reducible refine (cofferlaw14_own.calls ((rd_T25 l0 x6_1).f0) ((rd_T25 l0 x6_1).f1) ((rd_T25 l0 x6_1).f2) ((rd_T25 l0 x6_1).f3) _ _ ((rd_T25 l0 x6_1).f4) t640 t641 t642 t643 t644 _ ?side1 ?side2 A11.out).mono ?_);(case side1 => repeat (first|exact (Kd.C_below HR639_4.out HB.out)|(with_reducible refine Kd.C_alloc ?_ _)|(with_reducible refine Kd.C_drewN ?_ _)|(with_reducible refine Kd.C_drew ?_)));(case side2 => exact HC639_4.out);rintro e w14 ⟨v645,rfl,ho0,hb⟩;refine ⟨_,rfl,?_⟩;have n0_:=Aside0.mk (Kd.S_elder' (by (with_reducible repeat (first|apply Kd.S_alloc|apply Kd.S_drewN|apply Kd.S_drew));exact HO_5.out) (Kd.R_base ho0) hb);have n1_:=Aside0.mk (Kd.R_lower ho0 (below_size (by repeat (first|(with_reducible first|exact HB.out|apply below_alloc|apply pw_below_drewN|apply below_drew1)|exact HB.out))));have n2_:=Aside0.mk (below_step (by repeat (first|(with_reducible first|exact HB.out|apply below_alloc|apply pw_below_drewN|apply below_drew1)|exact HB.out)) hb);clear HO_5;clear HB;have HO_5:=n0_;have HO646:=n1_;have HB:=n2_;clear n0_ n1_ n2_;(try clear hb);(try clear hb2);(try clear hk);(try clear hi);(try clear ho0);obtain ⟨Ao15,co15,eo15⟩:=Kd.S_slice HO_5.out;subst eo15;obtain ⟨Ao16,co16,eo16⟩:=Kd.R_slice HO646.out;subst eo16)|((with_reducible refine gate_callee (f:=12) rfl ?_);refine goesL_ (some 34) rfl rfl Try.func12 (by kernel_rfl) rfl #[.slice Ao15 x5_1.length co15,.agg #[.string t640,.int .i64 t641,.bool t642,.string t643,.slice Ao16 t644.length co16]] rfl (by (try simp only [List.map_toArray,List.map_cons,List.map_nil]);first|done|rfl|(simp only [List.length_drop,List.length_take];rfl)) ?_;(with_reducible refine (stack_Push.calls kj5 _ _ x5_1 t640 t641 t642 t643 _ _ t644 t647 t650 _ ?side1 ?side2 ?side3 ?side4 A12.out).mono ?_);(case side1 => repeat (first|exact (Kd.S_reads' HO_5.out).2.2|(with_reducible refine Kd.C_alloc ?_ _)|(with_reducible refine Kd.C_drewN ?_ _)|(with_reducible refine Kd.C_drew ?_)));(case side2 => exact (Kd.S_reads' HO_5.out).2.1);(case side3 => repeat (first|exact (Kd.R_reads' HO646.out).2.2|(with_reducible refine Kd.C_alloc ?_ _)|(with_reducible refine Kd.C_drewN ?_ _)|(with_reducible refine Kd.C_drew ?_)));(case side4 => exact (Kd.R_reads' HO646.out).2.1);rintro e w17 ⟨v648,rfl,ho0,hb⟩;refine ⟨_,rfl,?_⟩;have n0_:=Aside0.mk (Kd.S_elder' (by (with_reducible repeat (first|apply Kd.S_alloc|apply Kd.S_drewN|apply Kd.S_drew));exact HO_5.out) (Kd.S_base ho0) hb);have n1_:=Aside0.mk (Kd.R_below (by (with_reducible repeat (first|apply Kd.R_alloc|apply Kd.R_drewN|apply Kd.R_drew));exact HO646.out) hb);have n2_:=Aside0.mk (Kd.S_lower (Kd.S_new' (Kd.S_new' ho0 (Kd.S_lt (by (with_reducible repeat (first|apply Kd.S_alloc|apply Kd.S_drewN|apply Kd.S_drew));exact HO_5.out))) (Kd.R_lt (by (with_reducible repeat (first|apply Kd.R_alloc|apply Kd.R_drewN|apply Kd.R_drew));exact HO646.out))) (below_size (by repeat (first|(with_reducible first|exact HB.out|apply below_alloc|apply pw_below_drewN|apply below_drew1)|exact HB.out))));have n3_:=Aside0.mk (below_step (by repeat (first|(with_reducible first|exact HB.out|apply below_alloc|apply pw_below_drewN|apply below_drew1)|exact HB.out)) hb);clear HO_5;clear HO646;clear HB;have HO_5:=n0_;have HO646:=n1_;have HO649:=n2_;have HB:=n3_;clear n0_ n1_ n2_ n3_;(try clear hb);(try clear hb2);(try clear hk);(try clear hi);(try clear ho0)))
         (try simp only [Act.put,List.setIfInBounds_toArray,List.set_cons_zero,List.set_cons_succ])
         go_cut [5] (fun v5 wc => ∃ (kq : Nat) (x5_12 : List (S25)),Aside0 (cofferlaw14_StackGrows.j2 kq l0 l1 x5_12 x6_1 = some r) ∧ Aside0 (kq ≤ kj5) ∧ Aside0 (Kd.S k25 25 wc w.heap.size (fun _ => True) v5 x5_12) ∧ Aside0 (Below w.heap.size w wc))
         case first =>
          have H:=HC13.out
          clear HC13
          by_cases c18 : t650 = 0
          ·rw [if_pos c18] at H
           have c18b0 : (t650 == 0) = true:=beq_iff_eq.mpr c18
           have c18b1 : (t650 != 0) = false:=bne_eq_false_iff_eq.mpr c18
           clear c18
           (first|rw [c18b0]|(simp only [i64_w,i32_w];rw [c18b0])|rw [c18b1]|skip)
           replace H:=Option.bind_eq_some_iff.mp H
           obtain ⟨⟨t652,t653⟩,A190,H⟩:=H
           replace H : (if t653 = 0 then ((cofferlaw14_alike.f kj5 t652 x5_1).bind fun t656 => (if t656 = true then (if (t647.length : Int) = (wrap64 ((x5_1.length : Int) + 1)) then (if 0 ≤ (x5_1.length : Int) then (if (x5_1.length : Int) ≤ (t647.length : Int) then ((cofferlaw14_alike.f kj5 (t647.take ((x5_1.length : Int) : Int).toNat) x5_1).bind fun t661 => (if t661 = true then (if (x5_1.length : Int) < (t647.length : Int) then ((cofferlaw14_like.f kj5 ((rd_T25 t647 (x5_1.length : Int)).f0) ((rd_T25 t647 (x5_1.length : Int)).f1) ((rd_T25 t647 (x5_1.length : Int)).f2) ((rd_T25 t647 (x5_1.length : Int)).f3) ((rd_T25 t647 (x5_1.length : Int)).f4) ((rd_T25 l0 x6_1).f0) ((rd_T25 l0 x6_1).f1) ((rd_T25 l0 x6_1).f2) ((rd_T25 l0 x6_1).f3) ((rd_T25 l0 x6_1).f4)).bind fun t664 => (if t664 = true then (cofferlaw14_StackGrows.j2 kj5 l0 l1 t647 x6_1) else (none))) else (none)) else (none))) else (none)) else (none)) else (none)) else (none))) else (none)) = some r:=H
           have A19:=Aside0.mk A190
           clear A190
           by_cases c20 : t653 = 0
           ·rw [if_pos c20] at H
            have c20b0 : (t653 == 0) = true:=beq_iff_eq.mpr c20
            have c20b1 : (t653 != 0) = false:=bne_eq_false_iff_eq.mpr c20
            clear c20
            replace H:=Option.bind_eq_some_iff.mp H
            obtain ⟨t656,A210,H⟩:=H
            replace H : (if t656 = true then (if (t647.length : Int) = (wrap64 ((x5_1.length : Int) + 1)) then (if 0 ≤ (x5_1.length : Int) then (if (x5_1.length : Int) ≤ (t647.length : Int) then ((cofferlaw14_alike.f kj5 (t647.take ((x5_1.length : Int) : Int).toNat) x5_1).bind fun t661 => (if t661 = true then (if (x5_1.length : Int) < (t647.length : Int) then ((cofferlaw14_like.f kj5 ((rd_T25 t647 (x5_1.length : Int)).f0) ((rd_T25 t647 (x5_1.length : Int)).f1) ((rd_T25 t647 (x5_1.length : Int)).f2) ((rd_T25 t647 (x5_1.length : Int)).f3) ((rd_T25 t647 (x5_1.length : Int)).f4) ((rd_T25 l0 x6_1).f0) ((rd_T25 l0 x6_1).f1) ((rd_T25 l0 x6_1).f2) ((rd_T25 l0 x6_1).f3) ((rd_T25 l0 x6_1).f4)).bind fun t664 => (if t664 = true then (cofferlaw14_StackGrows.j2 kj5 l0 l1 t647 x6_1) else (none))) else (none)) else (none))) else (none)) else (none)) else (none)) else (none)) = some r:=H
            have A21:=Aside0.mk A210
            clear A210
            by_cases c22 : t656 = true
            ·subst c22
             have H1 : (if (t647.length : Int) = (wrap64 ((x5_1.length : Int) + 1)) then (if 0 ≤ (x5_1.length : Int) then (if (x5_1.length : Int) ≤ (t647.length : Int) then ((cofferlaw14_alike.f kj5 (t647.take ((x5_1.length : Int) : Int).toNat) x5_1).bind fun t661 => (if t661 = true then (if (x5_1.length : Int) < (t647.length : Int) then ((cofferlaw14_like.f kj5 ((rd_T25 t647 (x5_1.length : Int)).f0) ((rd_T25 t647 (x5_1.length : Int)).f1) ((rd_T25 t647 (x5_1.length : Int)).f2) ((rd_T25 t647 (x5_1.length : Int)).f3) ((rd_T25 t647 (x5_1.length : Int)).f4) ((rd_T25 l0 x6_1).f0) ((rd_T25 l0 x6_1).f1) ((rd_T25 l0 x6_1).f2) ((rd_T25 l0 x6_1).f3) ((rd_T25 l0 x6_1).f4)).bind fun t664 => (if t664 = true then (cofferlaw14_StackGrows.j2 kj5 l0 l1 t647 x6_1) else (none))) else (none)) else (none))) else (none)) else (none)) else (none)) = some r:=by rw [if_pos rfl] at H;exact H
             clear H
             have H:=H1
             clear H1
             by_cases c23 : (t647.length : Int) = (wrap64 ((x5_1.length : Int) + 1))
             ·rw [if_pos c23] at H
              have c23b0 : ((t647.length : Int) == (wrap64 ((x5_1.length : Int) + 1))) = true:=beq_iff_eq.mpr c23
              have c23b1 : ((t647.length : Int) != (wrap64 ((x5_1.length : Int) + 1))) = false:=bne_eq_false_iff_eq.mpr c23
              clear c23
              by_cases c24 : 0 ≤ (x5_1.length : Int)
              ·rw [if_pos c24] at H
               have c24b0:=eq_true c24
               have c24b1 : decide (0 ≤ (x5_1.length : Int)) = true:=decide_eq_true c24
               clear c24
               by_cases c25 : (x5_1.length : Int) ≤ (t647.length : Int)
               ·rw [if_pos c25] at H
                have c25b0:=eq_true c25
                have c25b1 : decide ((x5_1.length : Int) ≤ (t647.length : Int)) = true:=decide_eq_true c25
                clear c25
                obtain ⟨y657,hy657⟩ : ∃ y_ : List (S25),y_ = (t647.take ((x5_1.length : Int) : Int).toNat):=⟨_,rfl⟩
                replace H : ((cofferlaw14_alike.f kj5 y657 x5_1).bind fun t661 => (if t661 = true then (if (x5_1.length : Int) < (t647.length : Int) then ((cofferlaw14_like.f kj5 ((rd_T25 t647 (x5_1.length : Int)).f0) ((rd_T25 t647 (x5_1.length : Int)).f1) ((rd_T25 t647 (x5_1.length : Int)).f2) ((rd_T25 t647 (x5_1.length : Int)).f3) ((rd_T25 t647 (x5_1.length : Int)).f4) ((rd_T25 l0 x6_1).f0) ((rd_T25 l0 x6_1).f1) ((rd_T25 l0 x6_1).f2) ((rd_T25 l0 x6_1).f3) ((rd_T25 l0 x6_1).f4)).bind fun t664 => (if t664 = true then (cofferlaw14_StackGrows.j2 kj5 l0 l1 t647 x6_1) else (none))) else (none)) else (none))) = some r:=by first|(rw [hy657];with_reducible exact H)|(have H2_:=(Option.bind_some _ _).symm.trans H;rw [hy657];with_reducible exact H2_)|(have H2_:=(Option.bind_some _ _).symm.trans H;with_reducible exact H2_)|with_reducible exact H|(rw [hy657];exact H)|exact H
                have Ny657:=Aside0.mk hy657
                clear hy657
                replace H:=Option.bind_eq_some_iff.mp H
                obtain ⟨t661,A260,H⟩:=H
                replace H : (if t661 = true then (if (x5_1.length : Int) < (t647.length : Int) then ((cofferlaw14_like.f kj5 ((rd_T25 t647 (x5_1.length : Int)).f0) ((rd_T25 t647 (x5_1.length : Int)).f1) ((rd_T25 t647 (x5_1.length : Int)).f2) ((rd_T25 t647 (x5_1.length : Int)).f3) ((rd_T25 t647 (x5_1.length : Int)).f4) ((rd_T25 l0 x6_1).f0) ((rd_T25 l0 x6_1).f1) ((rd_T25 l0 x6_1).f2) ((rd_T25 l0 x6_1).f3) ((rd_T25 l0 x6_1).f4)).bind fun t664 => (if t664 = true then (cofferlaw14_StackGrows.j2 kj5 l0 l1 t647 x6_1) else (none))) else (none)) else (none)) = some r:=H
                have A26:=Aside0.mk A260
                clear A260
                by_cases c27 : t661 = true
                ·subst c27
                 have H1 : (if (x5_1.length : Int) < (t647.length : Int) then ((cofferlaw14_like.f kj5 ((rd_T25 t647 (x5_1.length : Int)).f0) ((rd_T25 t647 (x5_1.length : Int)).f1) ((rd_T25 t647 (x5_1.length : Int)).f2) ((rd_T25 t647 (x5_1.length : Int)).f3) ((rd_T25 t647 (x5_1.length : Int)).f4) ((rd_T25 l0 x6_1).f0) ((rd_T25 l0 x6_1).f1) ((rd_T25 l0 x6_1).f2) ((rd_T25 l0 x6_1).f3) ((rd_T25 l0 x6_1).f4)).bind fun t664 => (if t664 = true then (cofferlaw14_StackGrows.j2 kj5 l0 l1 t647 x6_1) else (none))) else (none)) = some r:=by rw [if_pos rfl] at H;exact H
                 clear H
                 have H:=H1
                 clear H1
                 by_cases c28 : (x5_1.length : Int) < (t647.length : Int)
                 ·rw [if_pos c28] at H
                  have c28b0 : decide ((x5_1.length : Int) < (t647.length : Int)) = true:=decide_eq_true c28
                  have c28b1 : decide (x5_1.length < t647.length) = true:=decide_eq_true (Int.ofNat_lt.mp c28)
                  clear c28
                  replace H:=Option.bind_eq_some_iff.mp H
                  obtain ⟨t664,A290,H⟩:=H
                  replace H : (if t664 = true then (cofferlaw14_StackGrows.j2 kj5 l0 l1 t647 x6_1) else (none)) = some r:=H
                  have A29:=Aside0.mk A290
                  clear A290
                  by_cases c30 : t664 = true
                  ·subst c30
                   have H1 : (cofferlaw14_StackGrows.j2 kj5 l0 l1 t647 x6_1) = some r:=by rw [if_pos rfl] at H;exact H
                   clear H
                   have H:=H1
                   clear H1
                   have H':=Aside0.mk H
                   clear H
                   have p651 : 0 ≤ (x6_1 : Int):=of_decide_eq_true (by first|(with_reducible assumption)|assumption)
                   have q651 : x6_1 < (l0.length : Int):=of_decide_eq_true (by first|(with_reducible assumption)|assumption)
                   obtain ⟨ad651,A651_4,c651_4,e651,hx651_0,hx651_1,hx651_2,hx651_3,hx651_4,hl651_4,hi651_4⟩:=at_T25 HR0.out x6_1 p651 q651
                   obtain rfl : ad639 = ad651:=(by injection e651)
                   replace hx651_0:=(HB.out.cell (World.block_lt_of_cell? w _ hx651_0)).trans hx651_0
                   replace hx651_1:=(HB.out.cell (World.block_lt_of_cell? w _ hx651_1)).trans hx651_1
                   replace hx651_2:=(HB.out.cell (World.block_lt_of_cell? w _ hx651_2)).trans hx651_2
                   replace hx651_3:=(HB.out.cell (World.block_lt_of_cell? w _ hx651_3)).trans hx651_3
                   replace hx651_4:=(HB.out.cell (World.block_lt_of_cell? w _ hx651_4)).trans hx651_4
                   have HR651_4:=Aside0.mk hi651_4
                   have HC651_4:=Aside0.mk hl651_4
                   clear hi651_4 hl651_4
                   replace p651:=eq_true p651
                   replace q651:=eq_true q651
                   obtain ⟨Ao31,co31,eo31⟩:=Kd.S_slice HO649.out
                   subst eo31
                   try go_wp2_with (first|((with_reducible refine gate_callee (f:=18) rfl ?_);refine goesL_ (some 46) rfl rfl Try.func18 (by kernel_rfl) rfl #[.slice Ao31 t647.length co31,.int .i64 ((rd_T25 l0 x6_1).f1)] rfl (by (try simp only [List.map_toArray,List.map_cons,List.map_nil]);first|done|rfl|(simp only [List.length_drop,List.length_take];rfl)) ?_;(with_reducible refine (stack_Remove.calls kj5 _ _ t647 ((rd_T25 l0 x6_1).f1) t652 t653 _ ?side1 ?side2 A19.out).mono ?_);(case side1 => repeat (first|exact (Kd.S_reads' HO649.out).2.2|(with_reducible refine Kd.C_alloc ?_ _)|(with_reducible refine Kd.C_drewN ?_ _)|(with_reducible refine Kd.C_drew ?_)));(case side2 => exact (Kd.S_reads' HO649.out).2.1);rintro e w32 ⟨v654,rfl,ho0,hb⟩;refine ⟨_,rfl,?_⟩;have n0_:=Aside0.mk (Kd.S_elder' (by (with_reducible repeat (first|apply Kd.S_alloc|apply Kd.S_drewN|apply Kd.S_drew));exact HO_5.out) (Kd.S_base ho0) hb);have n1_:=Aside0.mk (Kd.R_below (by (with_reducible repeat (first|apply Kd.R_alloc|apply Kd.R_drewN|apply Kd.R_drew));exact HO646.out) hb);have n2_:=Aside0.mk (Kd.S_elder' (by (with_reducible repeat (first|apply Kd.S_alloc|apply Kd.S_drewN|apply Kd.S_drew));exact HO649.out) (Kd.S_base ho0) hb);have n3_:=Aside0.mk (Kd.S_lower (Kd.S_new' (Kd.S_new' (Kd.S_new' ho0 (Kd.S_lt (by (with_reducible repeat (first|apply Kd.S_alloc|apply Kd.S_drewN|apply Kd.S_drew));exact HO_5.out))) (Kd.R_lt (by (with_reducible repeat (first|apply Kd.R_alloc|apply Kd.R_drewN|apply Kd.R_drew));exact HO646.out))) (Kd.S_lt (by (with_reducible repeat (first|apply Kd.S_alloc|apply Kd.S_drewN|apply Kd.S_drew));exact HO649.out))) (below_size (by repeat (first|(with_reducible first|exact HB.out|apply below_alloc|apply pw_below_drewN|apply below_drew1)|exact HB.out))));have n4_:=Aside0.mk (below_step (by repeat (first|(with_reducible first|exact HB.out|apply below_alloc|apply pw_below_drewN|apply below_drew1)|exact HB.out)) hb);clear HO_5;clear HO646;clear HO649;clear HB;have HO_5:=n0_;have HO646:=n1_;have HO649:=n2_;have HO655:=n3_;have HB:=n4_;clear n0_ n1_ n2_ n3_ n4_;(try clear hb);(try clear hb2);(try clear hk);(try clear hi);(try clear ho0)))
                   have n0_:=Aside0.mk (Kd.S_drew HO_5.out)
                   have n1_:=Aside0.mk (Kd.R_drew HO646.out)
                   have n2_:=Aside0.mk (Kd.S_drew HO649.out)
                   have n3_:=Aside0.mk (Kd.S_drew HO655.out)
                   have n4_:=Aside0.mk (below_drew1 HB.out)
                   clear HO_5
                   clear HO646
                   clear HO649
                   clear HO655
                   clear HB
                   have HO_5:=n0_
                   have HO646:=n1_
                   have HO649:=n2_
                   have HO655:=n3_
                   have HB:=n4_
                   clear n0_ n1_ n2_ n3_ n4_
                   obtain ⟨Ao34,co34,eo34⟩:=Kd.S_slice HO655.out
                   (first|subst eo34|(injection eo34 with f1_ f2_ f3_;have f4_:=f1_.symm;have f5_:=f3_.symm;clear f1_ f2_ f3_;subst f4_;subst f5_))
                   have p662 : 0 ≤ ((x5_1.length : Int) : Int):=of_decide_eq_true (by first|(with_reducible assumption)|assumption)
                   have q662 : (x5_1.length : Int) < (t647.length : Int):=of_decide_eq_true (by first|(with_reducible assumption)|assumption)
                   obtain ⟨ad662,A662_4,c662_4,e662,hx662_0,hx662_1,hx662_2,hx662_3,hx662_4,hl662_4,hi662_4⟩:=at_T25 (Kd.S_reads' HO649.out).2.2 (x5_1.length : Int) p662 q662
                   cases e662
                   obtain ⟨ce662,hce662,hMe662,hcc662⟩:=Kd.S_get HO649.out z25 (x5_1.length : Int) p662 (by first|exact q662|exact of_decide_eq_true (by first|(with_reducible assumption)|assumption)|(have e_:=(Kd.S_reads' HO649.out).1;omega))
                   obtain ⟨ve662_4,rfl,ge662_4⟩:=k25_openM hMe662
                   have hv662_4:=hcc662 4 _ rfl
                   rw [add_field _ _ 4 (by omega)] at hv662_4
                   replace hv662_4:=Option.some.inj (hv662_4.symm.trans hx662_4)
                   rw [hv662_4] at ge662_4
                   have HL662_4:=Aside0.mk (show Kd.R k49 49 _ _ _ _ ((rd_T25 t647 (x5_1.length : Int)).f4) from ge662_4)
                   clear hv662_4 ge662_4
                   clear hcc662 hce662
                   have HR662_4:=Aside0.mk hi662_4
                   have HC662_4:=Aside0.mk hl662_4
                   clear hi662_4 hl662_4
                   (try simp only [Go.IntWalk.toNatUp] at hx662_0)
                   (try simp only [Go.IntWalk.toNatUp] at hx662_1)
                   (try simp only [Go.IntWalk.toNatUp] at hx662_2)
                   (try simp only [Go.IntWalk.toNatUp] at hx662_3)
                   (try simp only [Go.IntWalk.toNatUp] at hx662_4)
                   replace p662:=eq_true p662
                   replace q662:=eq_true q662
                   have p663 : 0 ≤ (x6_1 : Int):=of_decide_eq_true (by first|(with_reducible assumption)|assumption)
                   have q663 : x6_1 < (l0.length : Int):=of_decide_eq_true (by first|(with_reducible assumption)|assumption)
                   obtain ⟨ad663,A663_4,c663_4,e663,hx663_0,hx663_1,hx663_2,hx663_3,hx663_4,hl663_4,hi663_4⟩:=at_T25 HR0.out x6_1 p663 q663
                   have hw663_4:=hx663_4
                   have hw663_3:=hx663_3
                   have hw663_2:=hx663_2
                   have hw663_1:=hx663_1
                   have hw663_0:=hx663_0
                   obtain rfl : ad639 = ad663:=(by injection e663)
                   replace hx663_0:=(HB.out.cell (World.block_lt_of_cell? w _ hx663_0)).trans hx663_0
                   replace hx663_1:=(HB.out.cell (World.block_lt_of_cell? w _ hx663_1)).trans hx663_1
                   replace hx663_2:=(HB.out.cell (World.block_lt_of_cell? w _ hx663_2)).trans hx663_2
                   replace hx663_3:=(HB.out.cell (World.block_lt_of_cell? w _ hx663_3)).trans hx663_3
                   replace hx663_4:=(HB.out.cell (World.block_lt_of_cell? w _ hx663_4)).trans hx663_4
                   have HR663_4:=Aside0.mk hi663_4
                   have HC663_4:=Aside0.mk hl663_4
                   clear hi663_4 hl663_4
                   replace p663:=eq_true p663
                   replace q663:=eq_true q663
                   refine start_ (n:=38) (S:=fun w' => w'.cell? (ad662.add (((x5_1.length : Int)).toNat * 5)) = some (.string ((rd_T25 t647 (x5_1.length : Int)).f0)) ∧ w'.cell? ⟨(ad662.add (((x5_1.length : Int)).toNat * 5)).block,(ad662.add (((x5_1.length : Int)).toNat * 5)).off + 1,none⟩ = some (.int .i64 ((rd_T25 t647 (x5_1.length : Int)).f1)) ∧ w'.cell? ⟨(ad662.add (((x5_1.length : Int)).toNat * 5)).block,(ad662.add (((x5_1.length : Int)).toNat * 5)).off + 2,none⟩ = some (.bool ((rd_T25 t647 (x5_1.length : Int)).f2)) ∧ w'.cell? ⟨(ad662.add (((x5_1.length : Int)).toNat * 5)).block,(ad662.add (((x5_1.length : Int)).toNat * 5)).off + 3,none⟩ = some (.string ((rd_T25 t647 (x5_1.length : Int)).f3)) ∧ w'.cell? ⟨(ad662.add (((x5_1.length : Int)).toNat * 5)).block,(ad662.add (((x5_1.length : Int)).toNat * 5)).off + 4,none⟩ = some (.slice A662_4 ((rd_T25 t647 (x5_1.length : Int)).f4).length c662_4) ∧ w'.cell? (ad639.add ((x6_1).toNat * 5)) = some (.string ((rd_T25 l0 x6_1).f0)) ∧ w'.cell? ⟨(ad639.add ((x6_1).toNat * 5)).block,(ad639.add ((x6_1).toNat * 5)).off + 1,none⟩ = some (.int .i64 ((rd_T25 l0 x6_1).f1)) ∧ w'.cell? ⟨(ad639.add ((x6_1).toNat * 5)).block,(ad639.add ((x6_1).toNat * 5)).off + 2,none⟩ = some (.bool ((rd_T25 l0 x6_1).f2)) ∧ w'.cell? ⟨(ad639.add ((x6_1).toNat * 5)).block,(ad639.add ((x6_1).toNat * 5)).off + 3,none⟩ = some (.string ((rd_T25 l0 x6_1).f3)) ∧ w'.cell? ⟨(ad639.add ((x6_1).toNat * 5)).block,(ad639.add ((x6_1).toNat * 5)).off + 4,none⟩ = some (.slice A663_4 ((rd_T25 l0 x6_1).f4).length c663_4)) (ds:=[]) #[false,false,false,false,false,false,false,false,false,false,false,false,false,false,false,false,false,false,false,false,false,false,false,false,false,false,false,false,false,false,false,false,false,false,false,false,false,false] (by kernel_rfl) rfl rfl ⟨hx662_0,hx662_1,hx662_2,hx662_3,hx662_4,((HB.out.cell (World.block_lt_of_cell? w _ hw663_0)).trans hw663_0),((HB.out.cell (World.block_lt_of_cell? w _ hw663_1)).trans hw663_1),((HB.out.cell (World.block_lt_of_cell? w _ hw663_2)).trans hw663_2),((HB.out.cell (World.block_lt_of_cell? w _ hw663_3)).trans hw663_3),((HB.out.cell (World.block_lt_of_cell? w _ hw663_4)).trans hw663_4)⟩ (fun hHeld => ?_);refine with_tabW cofferlaw14_StackGrows.tab10 cofferlaw14_StackGrows.bits10 (fun HT_ HW_ => ?_)
                   generalize w32.drew = w33 at HO_5 HO646 HO649 HO655 HB HL662_4 HR662_4 HR663_4 hx662_0 hx662_1 hx662_2 hx662_3 hx662_4 hx663_0 hx663_1 hx663_2 hx663_3 hx663_4 hHeld ⊢
                   refine pure_ (i:=0) (N:=some 49) (v:=?_) (a':=?_) #[true,false,false,false,false,false,false,false,false,false,false,false,false,false,false,false,false,false,false,false,false,false,false,false,false,false,false,false,false,false,false,false,false,false,false,false,false,false] rfl rfl (any_of HT_.out (by kernel_rfl)) (fun _ _ _ h => h) (Or.inl ⟨by rfl,?_⟩) ?_ ?_
                   rotate_left
                   ·intro w'
                    go_simp
                    with_reducible rfl
                   rotate_left
                   ·simp only [Act.put,List.setIfInBounds_toArray,List.set_cons_zero,List.set_cons_succ,i64_w,i32_w]
                    rfl
                   refine pure_ (i:=1) (N:=some 50) (v:=?_) (a':=?_) #[true,true,false,false,false,false,false,false,false,false,false,false,false,false,false,false,false,false,false,false,false,false,false,false,false,false,false,false,false,false,false,false,false,false,false,false,false,false] rfl rfl (any_of HT_.out (by kernel_rfl)) (fun _ _ _ h => h) (Or.inl ⟨by rfl,?_⟩) ?_ ?_
                   rotate_left
                   ·intro w'
                    go_simp
                    with_reducible rfl
                   rotate_left
                   ·simp only [Act.put,List.setIfInBounds_toArray,List.set_cons_zero,List.set_cons_succ,i64_w,i32_w]
                    rfl
                   refine pure_ (i:=2) (N:=some 51) (v:=?_) (a':=?_) #[true,true,true,false,false,false,false,false,false,false,false,false,false,false,false,false,false,false,false,false,false,false,false,false,false,false,false,false,false,false,false,false,false,false,false,false,false,false] rfl rfl (any_of HT_.out (by kernel_rfl)) (fun _ _ _ h => h) (Or.inl ⟨by rfl,?_⟩) ?_ ?_
                   rotate_left
                   ·intro w'
                    go_simp
                    with_reducible rfl
                   rotate_left
                   ·simp only [Act.put,List.setIfInBounds_toArray,List.set_cons_zero,List.set_cons_succ,i64_w,i32_w]
                    rfl
                   refine pure_ (i:=3) (N:=some 52) (v:=?_) (a':=?_) #[true,true,true,true,false,false,false,false,false,false,false,false,false,false,false,false,false,false,false,false,false,false,false,false,false,false,false,false,false,false,false,false,false,false,false,false,false,false] rfl rfl (any_of HT_.out (by kernel_rfl)) (fun _ _ _ h => h) (Or.inl ⟨by rfl,?_⟩) ?_ ?_
                   rotate_left
                   ·intro w'
                    go_simp
                    with_reducible rfl
                   rotate_left
                   ·simp only [Act.put,List.setIfInBounds_toArray,List.set_cons_zero,List.set_cons_succ,i64_w,i32_w]
                    rfl
                   refine pure_ (i:=4) (N:=some 53) (v:=?_) (a':=?_) #[true,true,true,true,true,false,false,false,false,false,false,false,false,false,false,false,false,false,false,false,false,false,false,false,false,false,false,false,false,false,false,false,false,false,false,false,false,false] rfl rfl (any_of HT_.out (by kernel_rfl)) (fun _ _ _ h => h) (Or.inl ⟨by rfl,?_⟩) ?_ ?_
                   rotate_left
                   ·intro w'
                    go_simp
                    with_reducible rfl
                   rotate_left
                   ·simp only [Act.put,List.setIfInBounds_toArray,List.set_cons_zero,List.set_cons_succ,i64_w,i32_w]
                    rfl
                   refine one_ (i:=5) (N:=some 54) #[true,true,true,true,true,true,false,false,false,false,false,false,false,false,false,false,false,false,false,false,false,false,false,false,false,false,false,false,false,false,false,false,false,false,false,false,false,false] rfl rfl (one_of HT_.out (by kernel_rfl)) (by decide) (fun K hK => ?_)
                   refine goes_ Try.func19 (by kernel_rfl) rfl #[.slice Ao34 t652.length co34,.slice Ao15 x5_1.length co15] (by rfl) rfl rfl (by (try simp only [List.map_toArray,List.map_cons,List.map_nil]);first|done|rfl|(simp only [List.length_drop,List.length_take];rfl)) ?_
                   with_reducible refine (cofferlaw14_alike.calls kj5 _ _ t652 _ _ x5_1 true _ ?side1 ?side2 ?side3 ?side4 A21.out).mono ?_
                   (case side1 => repeat (first|exact (Kd.S_reads' HO655.out).2.2|(with_reducible refine Kd.C_alloc ?_ _)|(with_reducible refine Kd.C_drewN ?_ _)|(with_reducible refine Kd.C_drew ?_)))
                   (case side2 => exact (Kd.S_reads' HO655.out).2.1)
                   (case side3 => repeat (first|exact (Kd.S_reads' HO_5.out).2.2|(with_reducible refine Kd.C_alloc ?_ _)|(with_reducible refine Kd.C_drewN ?_ _)|(with_reducible refine Kd.C_drew ?_)))
                   (case side4 => exact (Kd.S_reads' HO_5.out).2.1)
                   rintro e w35 ⟨rfl,hb⟩
                   have HS0_:=(hb.cell (World.block_lt_of_cell? _ _ (hHeld.1))).trans (hHeld.1)
                   have HS1_:=(hb.cell (World.block_lt_of_cell? _ _ (hHeld.2.1))).trans (hHeld.2.1)
                   have HS2_:=(hb.cell (World.block_lt_of_cell? _ _ (hHeld.2.2.1))).trans (hHeld.2.2.1)
                   have HS3_:=(hb.cell (World.block_lt_of_cell? _ _ (hHeld.2.2.2.1))).trans (hHeld.2.2.2.1)
                   have HS4_:=(hb.cell (World.block_lt_of_cell? _ _ (hHeld.2.2.2.2.1))).trans (hHeld.2.2.2.2.1)
                   refine ⟨_,rfl,?_⟩
                   have n0_:=Aside0.mk (Kd.S_below (by (with_reducible repeat (first|apply Kd.S_alloc|apply Kd.S_drewN|apply Kd.S_drew));exact HO_5.out) hb)
                   have n1_:=Aside0.mk (Kd.R_below (by (with_reducible repeat (first|apply Kd.R_alloc|apply Kd.R_drewN|apply Kd.R_drew));exact HO646.out) hb)
                   have n2_:=Aside0.mk (Kd.S_below (by (with_reducible repeat (first|apply Kd.S_alloc|apply Kd.S_drewN|apply Kd.S_drew));exact HO649.out) hb)
                   have n3_:=Aside0.mk (Kd.S_below (by (with_reducible repeat (first|apply Kd.S_alloc|apply Kd.S_drewN|apply Kd.S_drew));exact HO655.out) hb)
                   have n4_:=Aside0.mk (below_step (by repeat (first|(with_reducible first|exact HB.out|apply below_alloc|apply pw_below_drewN|apply below_drew1)|exact HB.out)) hb)
                   clear HO_5
                   clear HO646
                   clear HO649
                   clear HO655
                   clear HB
                   have HO_5:=n0_
                   have HO646:=n1_
                   have HO649:=n2_
                   have HO655:=n3_
                   have HB:=n4_
                   clear n0_ n1_ n2_ n3_ n4_
                   have m0_:=Aside0.mk (Kd.R_below (by (with_reducible repeat (first|apply Kd.R_alloc|apply Kd.R_drewN|apply Kd.R_drew));exact HL662_4.out) hb)
                   have m1_:=Aside0.mk (Kd.C_below (by repeat (first|(with_reducible exact HR662_4.out)|(with_reducible refine Kd.C_alloc ?_ _)|(with_reducible refine Kd.C_drewN ?_ _)|(with_reducible refine Kd.C_drew ?_)|exact HR662_4.out)) hb)
                   clear HL662_4
                   clear HR662_4
                   have HL662_4:=m0_
                   have HR662_4:=m1_
                   clear m0_ m1_
                   (try clear hb)
                   (try clear hb2)
                   (try clear hk)
                   (try clear hi)
                   have q36 : ((x5_1.length : Int) : Int) ≤ ((t647.length : Int) : Int):=of_decide_eq_true (by first|(with_reducible assumption)|assumption)
                   obtain ⟨i036,hi036,_,hsz36,_⟩:=info_parts info25
                   have hroom36 : t647.length ≤ co31:=(Kd.S_reads' HO649.out).2.1
                   have hC36 : Kd.C k25 _ (some ad662) t647.length t647:=(Kd.S_reads' HO649.out).2.2
                   have hcut36:=cut_to (P:=Try.prog) 22 25 .i64 Try.underlying22 hi036 (some ad662) t647.length co31 (x5_1.length : Int) (of_decide_eq_true (by first|(with_reducible assumption)|assumption)) q36 hroom36
                   have hr36:=Kd.C_take (m:=((x5_1.length : Int) : Int).toNat) hC36 (by omega)
                   have hy36 : y657.length = ((x5_1.length : Int) : Int).toNat:=(by rw [Ny657.out,List.length_take];omega)
                   rw [← Ny657.out] at hr36
                   rw [← hy36] at hcut36
                   have HR660:=Aside0.mk hr36
                   have HC660:=Aside0.mk (show y657.length ≤ co31 from by omega)
                   clear hr36 hC36 hroom36 hi036 hsz36
                   have KY36:=Aside0.mk hy36
                   clear hy36
                   have KL36:=Aside0.mk (show ((x5_1.length : Int) : Int).toNat ≤ t647.length from by omega)
                   replace q36:=eq_true q36
                   refine hK.out _ _ ⟨HS0_,HS1_,HS2_,HS3_,HS4_,((HB.out.cell (World.block_lt_of_cell? w _ hw663_0)).trans hw663_0),((HB.out.cell (World.block_lt_of_cell? w _ hw663_1)).trans hw663_1),((HB.out.cell (World.block_lt_of_cell? w _ hw663_2)).trans hw663_2),((HB.out.cell (World.block_lt_of_cell? w _ hw663_3)).trans hw663_3),((HB.out.cell (World.block_lt_of_cell? w _ hw663_4)).trans hw663_4)⟩ (fun hHeld => ?_)
                   clear hK K
                   refine norm_ (a':=?_) ?_ ?_
                   rotate_left
                   ·show Act.put _ (some 54) _ = _
                    simp only [Act.put,List.setIfInBounds_toArray,List.set_cons_zero,List.set_cons_succ,i64_w,i32_w]
                    rfl
                   refine pure_ (i:=6) (N:=some 55) (v:=?_) (a':=?_) #[true,true,true,true,true,true,true,false,false,false,false,false,false,false,false,false,false,false,false,false,false,false,false,false,false,false,false,false,false,false,false,false,false,false,false,false,false,false] rfl rfl (any_of HT_.out (by kernel_rfl)) (fun _ _ _ h => h) (Or.inl ⟨by rfl,?_⟩) ?_ ?_
                   rotate_left
                   ·intro w'
                    go_simp
                    with_reducible rfl
                   rotate_left
                   ·simp only [Act.put,List.setIfInBounds_toArray,List.set_cons_zero,List.set_cons_succ,i64_w,i32_w]
                    rfl
                   refine pure_ (i:=7) (N:=some 56) (v:=?_) (a':=?_) #[true,true,true,true,true,true,true,true,false,false,false,false,false,false,false,false,false,false,false,false,false,false,false,false,false,false,false,false,false,false,false,false,false,false,false,false,false,false] rfl rfl (any_of HT_.out (by kernel_rfl)) (fun _ _ _ h => h) (Or.inl ⟨by rfl,?_⟩) ?_ ?_
                   rotate_left
                   ·intro w'
                    go_simp
                    with_reducible rfl
                   rotate_left
                   ·simp only [Act.put,List.setIfInBounds_toArray,List.set_cons_zero,List.set_cons_succ,i64_w,i32_w]
                    rfl
                   refine pure_ (i:=8) (N:=some 57) (v:=?_) (a':=?_) #[true,true,true,true,true,true,true,true,true,false,false,false,false,false,false,false,false,false,false,false,false,false,false,false,false,false,false,false,false,false,false,false,false,false,false,false,false,false] rfl rfl (any_of HT_.out (by kernel_rfl)) (fun _ _ _ h => h) (Or.inl ⟨by rfl,?_⟩) ?_ ?_
                   rotate_left
                   ·intro w'
                    go_simp
                    with_reducible rfl
                   rotate_left
                   ·simp only [Act.put,List.setIfInBounds_toArray,List.set_cons_zero,List.set_cons_succ,i64_w,i32_w]
                    rfl
                   refine pure_ (i:=9) (N:=some 58) (v:=?_) (a':=?_) #[true,true,true,true,true,true,true,true,true,true,false,false,false,false,false,false,false,false,false,false,false,false,false,false,false,false,false,false,false,false,false,false,false,false,false,false,false,false] rfl rfl (any_of HT_.out (by kernel_rfl)) (fun _ _ _ h => h) (Or.inl ⟨by rfl,?_⟩) ?_ ?_
                   rotate_left
                   ·intro w'
                    go_simp
                    with_reducible rfl
                   rotate_left
                   ·simp only [Act.put,List.setIfInBounds_toArray,List.set_cons_zero,List.set_cons_succ,i64_w,i32_w]
                    rfl
                   refine pure_ (i:=10) (N:=some 59) (v:=?_) (a':=?_) #[true,true,true,true,true,true,true,true,true,true,true,false,false,false,false,false,false,false,false,false,false,false,false,false,false,false,false,false,false,false,false,false,false,false,false,false,false,false] rfl rfl (any_of HT_.out (by kernel_rfl)) (fun _ _ _ h => h) (Or.inl ⟨by rfl,?_⟩) ?_ ?_
                   rotate_left
                   ·intro w'
                    go_simp
                    with_reducible rfl
                   rotate_left
                   ·simp only [Act.put,List.setIfInBounds_toArray,List.set_cons_zero,List.set_cons_succ,i64_w,i32_w]
                    rfl
                   refine pure_ (i:=11) (N:=some 60) (v:=?_) (a':=?_) #[true,true,true,true,true,true,true,true,true,true,true,true,false,false,false,false,false,false,false,false,false,false,false,false,false,false,false,false,false,false,false,false,false,false,false,false,false,false] rfl rfl (any_of HT_.out (by kernel_rfl)) (fun _ _ _ h => h) (Or.inl ⟨by rfl,?_⟩) ?_ ?_
                   rotate_left
                   ·intro w'
                    go_simp
                    with_reducible rfl
                   rotate_left
                   ·simp only [Act.put,List.setIfInBounds_toArray,List.set_cons_zero,List.set_cons_succ,i64_w,i32_w]
                    rfl
                   refine pure_ (i:=12) (N:=some 61) (v:=?_) (a':=?_) #[true,true,true,true,true,true,true,true,true,true,true,true,true,false,false,false,false,false,false,false,false,false,false,false,false,false,false,false,false,false,false,false,false,false,false,false,false,false] rfl rfl (any_of HT_.out (by kernel_rfl)) (fun _ _ _ h => h) (Or.inl ⟨by rfl,?_⟩) ?_ ?_
                   rotate_left
                   ·intro w'
                    go_simp
                    with_reducible rfl
                   rotate_left
                   ·simp only [Act.put,List.setIfInBounds_toArray,List.set_cons_zero,List.set_cons_succ,i64_w,i32_w]
                    rfl
                   refine pure_ (i:=13) (N:=some 62) (v:=?_) (a':=?_) #[true,true,true,true,true,true,true,true,true,true,true,true,true,true,false,false,false,false,false,false,false,false,false,false,false,false,false,false,false,false,false,false,false,false,false,false,false,false] rfl rfl (any_of HT_.out (by kernel_rfl)) (fun _ _ _ h => h) (Or.inl ⟨by rfl,?_⟩) ?_ ?_
                   rotate_left
                   ·intro w'
                    go_simp
                    with_reducible rfl
                   rotate_left
                   ·simp only [Act.put,List.setIfInBounds_toArray,List.set_cons_zero,List.set_cons_succ,i64_w,i32_w]
                    rfl
                   refine pure_ (i:=14) (N:=some 63) (v:=?_) (a':=?_) #[true,true,true,true,true,true,true,true,true,true,true,true,true,true,true,false,false,false,false,false,false,false,false,false,false,false,false,false,false,false,false,false,false,false,false,false,false,false] rfl rfl (any_of HT_.out (by kernel_rfl)) (fun _ _ _ h => h) (Or.inl ⟨by rfl,?_⟩) ?_ ?_
                   rotate_left
                   ·intro w'
                    go_simp
                    with_reducible rfl
                   rotate_left
                   ·simp only [Act.put,List.setIfInBounds_toArray,List.set_cons_zero,List.set_cons_succ,i64_w,i32_w]
                    rfl
                   refine pure_ (i:=15) (N:=some 64) (v:=?_) (a':=?_) #[true,true,true,true,true,true,true,true,true,true,true,true,true,true,true,true,false,false,false,false,false,false,false,false,false,false,false,false,false,false,false,false,false,false,false,false,false,false] rfl rfl (any_of HT_.out (by kernel_rfl)) (fun _ _ _ h => h) (Or.inl ⟨by rfl,?_⟩) ?_ ?_
                   rotate_left
                   ·intro w'
                    go_simp
                    with_reducible rfl
                   rotate_left
                   ·simp only [Act.put,List.setIfInBounds_toArray,List.set_cons_zero,List.set_cons_succ,i64_w,i32_w]
                    rfl
                   refine pure_ (i:=16) (N:=some 65) (v:=?_) (a':=?_) #[true,true,true,true,true,true,true,true,true,true,true,true,true,true,true,true,true,false,false,false,false,false,false,false,false,false,false,false,false,false,false,false,false,false,false,false,false,false] rfl rfl (any_of HT_.out (by kernel_rfl)) (fun _ _ _ h => h) (Or.inl ⟨by rfl,?_⟩) ?_ ?_
                   rotate_left
                   ·intro w'
                    go_simp
                    with_reducible rfl
                   rotate_left
                   ·simp only [Act.put,List.setIfInBounds_toArray,List.set_cons_zero,List.set_cons_succ,i64_w,i32_w]
                    rfl
                   refine pure_ (i:=17) (N:=some 66) (v:=?_) (a':=?_) #[true,true,true,true,true,true,true,true,true,true,true,true,true,true,true,true,true,true,false,false,false,false,false,false,false,false,false,false,false,false,false,false,false,false,false,false,false,false] rfl rfl (any_of HT_.out (by kernel_rfl)) (fun _ _ _ h => h) (Or.inl ⟨by rfl,?_⟩) ?_ ?_
                   rotate_left
                   ·intro w'
                    go_simp
                    with_reducible rfl
                   rotate_left
                   ·simp only [Act.put,List.setIfInBounds_toArray,List.set_cons_zero,List.set_cons_succ,i64_w,i32_w]
                    rfl
                   refine pure_ (i:=18) (N:=some 67) (v:=?_) (a':=?_) #[true,true,true,true,true,true,true,true,true,true,true,true,true,true,true,true,true,true,true,false,false,false,false,false,false,false,false,false,false,false,false,false,false,false,false,false,false,false] rfl rfl (any_of HT_.out (by kernel_rfl)) (fun _ _ _ h => h) (Or.inl ⟨by rfl,?_⟩) ?_ ?_
                   rotate_left
                   ·intro w'
                    go_simp
                    with_reducible rfl
                   rotate_left
                   ·simp only [Act.put,List.setIfInBounds_toArray,List.set_cons_zero,List.set_cons_succ,i64_w,i32_w]
                    rfl
                   refine pure_ (i:=19) (N:=some 68) (v:=?_) (a':=?_) #[true,true,true,true,true,true,true,true,true,true,true,true,true,true,true,true,true,true,true,true,false,false,false,false,false,false,false,false,false,false,false,false,false,false,false,false,false,false] rfl rfl (any_of HT_.out (by kernel_rfl)) (fun _ _ _ h => h) (Or.inl ⟨by rfl,?_⟩) ?_ ?_
                   rotate_left
                   ·intro w'
                    go_simp
                    with_reducible rfl
                   rotate_left
                   ·simp only [Act.put,List.setIfInBounds_toArray,List.set_cons_zero,List.set_cons_succ,i64_w,i32_w]
                    rfl
                   refine pure_ (i:=20) (N:=some 69) (v:=?_) (a':=?_) #[true,true,true,true,true,true,true,true,true,true,true,true,true,true,true,true,true,true,true,true,true,false,false,false,false,false,false,false,false,false,false,false,false,false,false,false,false,false] rfl rfl (any_of HT_.out (by kernel_rfl)) (fun _ _ _ h => h) (Or.inl ⟨by rfl,?_⟩) ?_ ?_
                   rotate_left
                   ·intro w'
                    go_simp
                    with_reducible rfl
                   rotate_left
                   ·simp only [Act.put,List.setIfInBounds_toArray,List.set_cons_zero,List.set_cons_succ,i64_w,i32_w]
                    rfl
                   refine pure_ (i:=21) (N:=some 70) (v:=?_) (a':=?_) #[true,true,true,true,true,true,true,true,true,true,true,true,true,true,true,true,true,true,true,true,true,true,false,false,false,false,false,false,false,false,false,false,false,false,false,false,false,false] rfl rfl (any_of HT_.out (by kernel_rfl)) (fun _ _ _ h => h) (Or.inl ⟨by rfl,?_⟩) ?_ ?_
                   rotate_left
                   ·intro w'
                    go_simp
                    with_reducible rfl
                   rotate_left
                   ·simp only [Act.put,List.setIfInBounds_toArray,List.set_cons_zero,List.set_cons_succ,i64_w,i32_w]
                    rfl
                   refine one_ (i:=22) (N:=some 71) #[true,true,true,true,true,true,true,true,true,true,true,true,true,true,true,true,true,true,true,true,true,true,true,false,false,false,false,false,false,false,false,false,false,false,false,false,false,false] rfl rfl (one_of HT_.out (by kernel_rfl)) (by decide) (fun K hK => ?_)
                   refine goes_ Try.func19 (by kernel_rfl) rfl #[.slice (some ad662) y657.length co31,.slice Ao15 x5_1.length co15] (by rfl) rfl rfl (by (try simp only [List.map_toArray,List.map_cons,List.map_nil]);first|done|rfl|(simp only [List.length_drop,List.length_take];rfl)) ?_
                   with_reducible refine (cofferlaw14_alike.calls kj5 _ _ y657 _ _ x5_1 true _ ?side1 ?side2 ?side3 ?side4 A26.out).mono ?_
                   (case side1 => repeat (first|exact (by repeat (first|(with_reducible exact HR660.out)|(with_reducible refine Kd.C_alloc ?_ _)|(with_reducible refine Kd.C_drewN ?_ _)|(with_reducible refine Kd.C_drew ?_)|exact HR660.out))|(with_reducible refine Kd.C_alloc ?_ _)|(with_reducible refine Kd.C_drewN ?_ _)|(with_reducible refine Kd.C_drew ?_)))
                   (case side2 => exact HC660.out)
                   (case side3 => repeat (first|exact (Kd.S_reads' HO_5.out).2.2|(with_reducible refine Kd.C_alloc ?_ _)|(with_reducible refine Kd.C_drewN ?_ _)|(with_reducible refine Kd.C_drew ?_)))
                   (case side4 => exact (Kd.S_reads' HO_5.out).2.1)
                   rintro e w37 ⟨rfl,hb⟩
                   have HS0_:=(hb.cell (World.block_lt_of_cell? _ _ (hHeld.1))).trans (hHeld.1)
                   have HS1_:=(hb.cell (World.block_lt_of_cell? _ _ (hHeld.2.1))).trans (hHeld.2.1)
                   have HS2_:=(hb.cell (World.block_lt_of_cell? _ _ (hHeld.2.2.1))).trans (hHeld.2.2.1)
                   have HS3_:=(hb.cell (World.block_lt_of_cell? _ _ (hHeld.2.2.2.1))).trans (hHeld.2.2.2.1)
                   have HS4_:=(hb.cell (World.block_lt_of_cell? _ _ (hHeld.2.2.2.2.1))).trans (hHeld.2.2.2.2.1)
                   refine ⟨_,rfl,?_⟩
                   have n0_:=Aside0.mk (Kd.S_below (by (with_reducible repeat (first|apply Kd.S_alloc|apply Kd.S_drewN|apply Kd.S_drew));exact HO_5.out) hb)
                   have n1_:=Aside0.mk (Kd.R_below (by (with_reducible repeat (first|apply Kd.R_alloc|apply Kd.R_drewN|apply Kd.R_drew));exact HO646.out) hb)
                   have n2_:=Aside0.mk (Kd.S_below (by (with_reducible repeat (first|apply Kd.S_alloc|apply Kd.S_drewN|apply Kd.S_drew));exact HO649.out) hb)
                   have n3_:=Aside0.mk (Kd.S_below (by (with_reducible repeat (first|apply Kd.S_alloc|apply Kd.S_drewN|apply Kd.S_drew));exact HO655.out) hb)
                   have n4_:=Aside0.mk (Kd.C_below (by repeat (first|(with_reducible exact HR660.out)|(with_reducible refine Kd.C_alloc ?_ _)|(with_reducible refine Kd.C_drewN ?_ _)|(with_reducible refine Kd.C_drew ?_)|exact HR660.out)) hb)
                   have n5_:=Aside0.mk (below_step (by repeat (first|(with_reducible first|exact HB.out|apply below_alloc|apply pw_below_drewN|apply below_drew1)|exact HB.out)) hb)
                   clear HO_5
                   clear HO646
                   clear HO649
                   clear HO655
                   clear HR660
                   clear HB
                   have HO_5:=n0_
                   have HO646:=n1_
                   have HO649:=n2_
                   have HO655:=n3_
                   have HR660:=n4_
                   have HB:=n5_
                   clear n0_ n1_ n2_ n3_ n4_ n5_
                   have m0_:=Aside0.mk (Kd.R_below (by (with_reducible repeat (first|apply Kd.R_alloc|apply Kd.R_drewN|apply Kd.R_drew));exact HL662_4.out) hb)
                   have m1_:=Aside0.mk (Kd.C_below (by repeat (first|(with_reducible exact HR662_4.out)|(with_reducible refine Kd.C_alloc ?_ _)|(with_reducible refine Kd.C_drewN ?_ _)|(with_reducible refine Kd.C_drew ?_)|exact HR662_4.out)) hb)
                   clear HL662_4
                   clear HR662_4
                   have HL662_4:=m0_
                   have HR662_4:=m1_
                   clear m0_ m1_
                   (try clear hb)
                   (try clear hb2)
                   (try clear hk)
                   (try clear hi)
                   refine hK.out _ _ ⟨HS0_,HS1_,HS2_,HS3_,HS4_,((HB.out.cell (World.block_lt_of_cell? w _ hw663_0)).trans hw663_0),((HB.out.cell (World.block_lt_of_cell? w _ hw663_1)).trans hw663_1),((HB.out.cell (World.block_lt_of_cell? w _ hw663_2)).trans hw663_2),((HB.out.cell (World.block_lt_of_cell? w _ hw663_3)).trans hw663_3),((HB.out.cell (World.block_lt_of_cell? w _ hw663_4)).trans hw663_4)⟩ (fun hHeld => ?_)
                   clear hK K
                   refine norm_ (a':=?_) ?_ ?_
                   rotate_left
                   ·show Act.put _ (some 71) _ = _
                    simp only [Act.put,List.setIfInBounds_toArray,List.set_cons_zero,List.set_cons_succ,i64_w,i32_w]
                    rfl
                   refine pure_ (i:=23) (N:=some 72) (v:=?_) (a':=?_) #[true,true,true,true,true,true,true,true,true,true,true,true,true,true,true,true,true,true,true,true,true,true,true,true,false,false,false,false,false,false,false,false,false,false,false,false,false,false] rfl rfl (any_of HT_.out (by kernel_rfl)) (fun _ _ _ h => h) (Or.inl ⟨by rfl,?_⟩) ?_ ?_
                   rotate_left
                   ·intro w'
                    go_simp
                    with_reducible rfl
                   rotate_left
                   ·simp only [Act.put,List.setIfInBounds_toArray,List.set_cons_zero,List.set_cons_succ,i64_w,i32_w]
                    rfl
                   refine pure_ (i:=24) (N:=some 73) (v:=?_) (a':=?_) #[true,true,true,true,true,true,true,true,true,true,true,true,true,true,true,true,true,true,true,true,true,true,true,true,true,false,false,false,false,false,false,false,false,false,false,false,false,false] rfl rfl (any_of HT_.out (by kernel_rfl)) (fun _ _ _ h => h) (Or.inl ⟨by rfl,?_⟩) ?_ ?_
                   rotate_left
                   ·intro w'
                    go_simp
                    with_reducible rfl
                   rotate_left
                   ·simp only [Act.put,List.setIfInBounds_toArray,List.set_cons_zero,List.set_cons_succ,i64_w,i32_w]
                    rfl
                   refine pure_ (i:=25) (N:=some 74) (v:=?_) (a':=?_) #[true,true,true,true,true,true,true,true,true,true,true,true,true,true,true,true,true,true,true,true,true,true,true,true,true,true,false,false,false,false,false,false,false,false,false,false,false,false] rfl rfl (any_of HT_.out (by kernel_rfl)) (fun _ _ _ h => h) (Or.inl ⟨by rfl,?_⟩) ?_ ?_
                   rotate_left
                   ·intro w'
                    go_simp
                    with_reducible rfl
                   rotate_left
                   ·simp only [Act.put,List.setIfInBounds_toArray,List.set_cons_zero,List.set_cons_succ,i64_w,i32_w]
                    rfl
                   refine pure_ (i:=26) (N:=some 75) (v:=?_) (a':=?_) #[true,true,true,true,true,true,true,true,true,true,true,true,true,true,true,true,true,true,true,true,true,true,true,true,true,true,true,false,false,false,false,false,false,false,false,false,false,false] rfl rfl (any_of HT_.out (by kernel_rfl)) (fun _ _ _ h => h) (Or.inl ⟨by rfl,?_⟩) ?_ ?_
                   rotate_left
                   ·intro w'
                    go_simp
                    with_reducible rfl
                   rotate_left
                   ·simp only [Act.put,List.setIfInBounds_toArray,List.set_cons_zero,List.set_cons_succ,i64_w,i32_w]
                    rfl
                   refine pure_ (i:=27) (N:=some 76) (v:=?_) (a':=?_) #[true,true,true,true,true,true,true,true,true,true,true,true,true,true,true,true,true,true,true,true,true,true,true,true,true,true,true,true,false,false,false,false,false,false,false,false,false,false] rfl rfl (any_of HT_.out (by kernel_rfl)) (fun _ _ _ h => h) (Or.inl ⟨by rfl,?_⟩) ?_ ?_
                   rotate_left
                   ·intro w'
                    go_simp
                    with_reducible rfl
                   rotate_left
                   ·simp only [Act.put,List.setIfInBounds_toArray,List.set_cons_zero,List.set_cons_succ,i64_w,i32_w]
                    rfl
                   refine pure_ (i:=28) (N:=some 77) (v:=?_) (a':=?_) #[true,true,true,true,true,true,true,true,true,true,true,true,true,true,true,true,true,true,true,true,true,true,true,true,true,true,true,true,true,false,false,false,false,false,false,false,false,false] rfl rfl (any_of HT_.out (by kernel_rfl)) (fun _ _ _ h => h) (Or.inl ⟨by rfl,?_⟩) ?_ ?_
                   rotate_left
                   ·intro w'
                    go_simp
                    with_reducible rfl
                   rotate_left
                   ·simp only [Act.put,List.setIfInBounds_toArray,List.set_cons_zero,List.set_cons_succ,i64_w,i32_w]
                    rfl
                   refine pure_ (i:=29) (N:=some 78) (v:=?_) (a':=?_) #[true,true,true,true,true,true,true,true,true,true,true,true,true,true,true,true,true,true,true,true,true,true,true,true,true,true,true,true,true,true,false,false,false,false,false,false,false,false] rfl rfl (any_of HT_.out (by kernel_rfl)) (fun _ _ _ h => h) (Or.inl ⟨by rfl,?_⟩) ?_ ?_
                   rotate_left
                   ·intro w'
                    go_simp
                    with_reducible rfl
                   rotate_left
                   ·simp only [Act.put,List.setIfInBounds_toArray,List.set_cons_zero,List.set_cons_succ,i64_w,i32_w]
                    rfl
                   refine pure_ (i:=31) (N:=some 80) (v:=?_) (a':=?_) #[true,true,true,true,true,true,true,true,true,true,true,true,true,true,true,true,true,true,true,true,true,true,true,true,true,true,true,true,true,true,false,true,false,false,false,false,false,false] rfl rfl (any_of HT_.out (by kernel_rfl)) (fun _ _ _ h => h) (Or.inl ⟨by rfl,?_⟩) ?_ ?_
                   rotate_left
                   ·intro w'
                    go_simp
                    with_reducible rfl
                   rotate_left
                   ·simp only [Act.put,List.setIfInBounds_toArray,List.set_cons_zero,List.set_cons_succ,i64_w,i32_w]
                    rfl
                   refine pure_ (i:=32) (N:=some 81) (v:=?_) (a':=?_) #[true,true,true,true,true,true,true,true,true,true,true,true,true,true,true,true,true,true,true,true,true,true,true,true,true,true,true,true,true,true,false,true,true,false,false,false,false,false] rfl rfl (any_of HT_.out (by kernel_rfl)) (fun _ _ _ h => h) (Or.inl ⟨by rfl,?_⟩) ?_ ?_
                   rotate_left
                   ·intro w'
                    go_simp
                    with_reducible rfl
                   rotate_left
                   ·simp only [Act.put,List.setIfInBounds_toArray,List.set_cons_zero,List.set_cons_succ,i64_w,i32_w]
                    rfl
                   refine pure_ (i:=33) (N:=some 82) (v:=?_) (a':=?_) #[true,true,true,true,true,true,true,true,true,true,true,true,true,true,true,true,true,true,true,true,true,true,true,true,true,true,true,true,true,true,false,true,true,true,false,false,false,false] rfl rfl (any_of HT_.out (by kernel_rfl)) (fun _ _ _ h => h) (Or.inl ⟨by rfl,?_⟩) ?_ ?_
                   rotate_left
                   ·intro w'
                    go_simp
                    with_reducible rfl
                   rotate_left
                   ·simp only [Act.put,List.setIfInBounds_toArray,List.set_cons_zero,List.set_cons_succ,i64_w,i32_w]
                    rfl
                   refine take_ (i:=30) (N:=some 79) (v:=?_) (a':=?_) #[true,true,true,true,true,true,true,true,true,true,true,true,true,true,true,true,true,true,true,true,true,true,true,true,true,true,true,true,true,true,true,true,true,true,false,false,false,false] rfl rfl (take_ofW HT_.out HW_.out (by kernel_rfl)) (fun _ _ _ h => h) (Or.inl ⟨by rfl,?_⟩) hHeld ?_ ?_
                   rotate_left
                   ·rintro w' ⟨s0,s1,s2,s3,s4,s5,s6,s7,s8,s9⟩
                    try simp only [Int.toNat_natCast] at s0 s1 s2 s3 s4 s5 s6 s7 s8 s9
                    go_simp
                    with_reducible rfl
                   rotate_left
                   ·simp only [Act.put,List.setIfInBounds_toArray,List.set_cons_zero,List.set_cons_succ,i64_w,i32_w]
                    rfl
                   refine take_ (i:=34) (N:=some 83) (v:=?_) (a':=?_) #[true,true,true,true,true,true,true,true,true,true,true,true,true,true,true,true,true,true,true,true,true,true,true,true,true,true,true,true,true,true,true,true,true,true,true,false,false,false] rfl rfl (take_ofW HT_.out HW_.out (by kernel_rfl)) (fun _ _ _ h => h) (Or.inl ⟨by rfl,?_⟩) hHeld ?_ ?_
                   rotate_left
                   ·rintro w' ⟨s0,s1,s2,s3,s4,s5,s6,s7,s8,s9⟩
                    try simp only [Int.toNat_natCast] at s0 s1 s2 s3 s4 s5 s6 s7 s8 s9
                    go_simp
                    with_reducible rfl
                   rotate_left
                   ·simp only [Act.put,List.setIfInBounds_toArray,List.set_cons_zero,List.set_cons_succ,i64_w,i32_w]
                    rfl
                   refine one_ (i:=35) (N:=some 84) #[true,true,true,true,true,true,true,true,true,true,true,true,true,true,true,true,true,true,true,true,true,true,true,true,true,true,true,true,true,true,true,true,true,true,true,true,false,false] rfl rfl (one_of HT_.out (by kernel_rfl)) (by decide) (fun K hK => ?_)
                   refine goes_ Try.func26 (by kernel_rfl) rfl #[.agg #[.string ((rd_T25 t647 (x5_1.length : Int)).f0),.int .i64 ((rd_T25 t647 (x5_1.length : Int)).f1),.bool ((rd_T25 t647 (x5_1.length : Int)).f2),.string ((rd_T25 t647 (x5_1.length : Int)).f3),.slice A662_4 ((rd_T25 t647 (x5_1.length : Int)).f4).length c662_4],.agg #[.string ((rd_T25 l0 x6_1).f0),.int .i64 ((rd_T25 l0 x6_1).f1),.bool ((rd_T25 l0 x6_1).f2),.string ((rd_T25 l0 x6_1).f3),.slice A663_4 ((rd_T25 l0 x6_1).f4).length c663_4]] (by rfl) rfl rfl (by (try simp only [List.map_toArray,List.map_cons,List.map_nil]);first|done|rfl|(simp only [List.length_drop,List.length_take];rfl)) ?_
                   with_reducible refine (cofferlaw14_like.calls kj5 ((rd_T25 t647 (x5_1.length : Int)).f0) ((rd_T25 t647 (x5_1.length : Int)).f1) ((rd_T25 t647 (x5_1.length : Int)).f2) ((rd_T25 t647 (x5_1.length : Int)).f3) _ _ ((rd_T25 t647 (x5_1.length : Int)).f4) ((rd_T25 l0 x6_1).f0) ((rd_T25 l0 x6_1).f1) ((rd_T25 l0 x6_1).f2) ((rd_T25 l0 x6_1).f3) _ _ ((rd_T25 l0 x6_1).f4) true _ ?side1 ?side2 ?side3 ?side4 A29.out).mono ?_
                   (case side1 => repeat (first|exact (by repeat (first|(with_reducible exact HR662_4.out)|(with_reducible refine Kd.C_alloc ?_ _)|(with_reducible refine Kd.C_drewN ?_ _)|(with_reducible refine Kd.C_drew ?_)|exact HR662_4.out))|(with_reducible refine Kd.C_alloc ?_ _)|(with_reducible refine Kd.C_drewN ?_ _)|(with_reducible refine Kd.C_drew ?_)))
                   (case side2 => exact HC662_4.out)
                   (case side3 => repeat (first|exact (Kd.C_below HR663_4.out HB.out)|(with_reducible refine Kd.C_alloc ?_ _)|(with_reducible refine Kd.C_drewN ?_ _)|(with_reducible refine Kd.C_drew ?_)))
                   (case side4 => exact HC663_4.out)
                   rintro e w38 ⟨rfl,hb⟩
                   have HS0_:=(hb.cell (World.block_lt_of_cell? _ _ (hHeld.1))).trans (hHeld.1)
                   have HS1_:=(hb.cell (World.block_lt_of_cell? _ _ (hHeld.2.1))).trans (hHeld.2.1)
                   have HS2_:=(hb.cell (World.block_lt_of_cell? _ _ (hHeld.2.2.1))).trans (hHeld.2.2.1)
                   have HS3_:=(hb.cell (World.block_lt_of_cell? _ _ (hHeld.2.2.2.1))).trans (hHeld.2.2.2.1)
                   have HS4_:=(hb.cell (World.block_lt_of_cell? _ _ (hHeld.2.2.2.2.1))).trans (hHeld.2.2.2.2.1)
                   refine ⟨_,rfl,?_⟩
                   have n0_:=Aside0.mk (Kd.S_below (by (with_reducible repeat (first|apply Kd.S_alloc|apply Kd.S_drewN|apply Kd.S_drew));exact HO_5.out) hb)
                   have n1_:=Aside0.mk (Kd.R_below (by (with_reducible repeat (first|apply Kd.R_alloc|apply Kd.R_drewN|apply Kd.R_drew));exact HO646.out) hb)
                   have n2_:=Aside0.mk (Kd.S_below (by (with_reducible repeat (first|apply Kd.S_alloc|apply Kd.S_drewN|apply Kd.S_drew));exact HO649.out) hb)
                   have n3_:=Aside0.mk (Kd.S_below (by (with_reducible repeat (first|apply Kd.S_alloc|apply Kd.S_drewN|apply Kd.S_drew));exact HO655.out) hb)
                   have n4_:=Aside0.mk (Kd.R_below (by (with_reducible repeat (first|apply Kd.R_alloc|apply Kd.R_drewN|apply Kd.R_drew));exact HL662_4.out) hb)
                   have n5_:=Aside0.mk (Kd.C_below (by repeat (first|(with_reducible exact HR660.out)|(with_reducible refine Kd.C_alloc ?_ _)|(with_reducible refine Kd.C_drewN ?_ _)|(with_reducible refine Kd.C_drew ?_)|exact HR660.out)) hb)
                   have n6_:=Aside0.mk (Kd.C_below (by repeat (first|(with_reducible exact HR662_4.out)|(with_reducible refine Kd.C_alloc ?_ _)|(with_reducible refine Kd.C_drewN ?_ _)|(with_reducible refine Kd.C_drew ?_)|exact HR662_4.out)) hb)
                   have n7_:=Aside0.mk (below_step (by repeat (first|(with_reducible first|exact HB.out|apply below_alloc|apply pw_below_drewN|apply below_drew1)|exact HB.out)) hb)
                   clear HO_5
                   clear HO646
                   clear HO649
                   clear HO655
                   clear HL662_4
                   clear HR660
                   clear HR662_4
                   clear HB
                   have HO_5:=n0_
                   have HO646:=n1_
                   have HO649:=n2_
                   have HO655:=n3_
                   have HL662_4:=n4_
                   have HR660:=n5_
                   have HR662_4:=n6_
                   have HB:=n7_
                   clear n0_ n1_ n2_ n3_ n4_ n5_ n6_ n7_
                   (try clear hb)
                   (try clear hb2)
                   (try clear hk)
                   (try clear hi)
                   refine hK.out _ _ ⟨HS0_,HS1_,HS2_,HS3_,HS4_,((HB.out.cell (World.block_lt_of_cell? w _ hw663_0)).trans hw663_0),((HB.out.cell (World.block_lt_of_cell? w _ hw663_1)).trans hw663_1),((HB.out.cell (World.block_lt_of_cell? w _ hw663_2)).trans hw663_2),((HB.out.cell (World.block_lt_of_cell? w _ hw663_3)).trans hw663_3),((HB.out.cell (World.block_lt_of_cell? w _ hw663_4)).trans hw663_4)⟩ (fun hHeld => ?_)
                   clear hK K
                   refine norm_ (a':=?_) ?_ ?_
                   rotate_left
                   ·show Act.put _ (some 84) _ = _
                    simp only [Act.put,List.setIfInBounds_toArray,List.set_cons_zero,List.set_cons_succ,i64_w,i32_w]
                    rfl
                   refine pure_ (i:=36) (N:=some 85) (v:=?_) (a':=?_) #[true,true,true,true,true,true,true,true,true,true,true,true,true,true,true,true,true,true,true,true,true,true,true,true,true,true,true,true,true,true,true,true,true,true,true,true,true,false] rfl rfl (any_of HT_.out (by kernel_rfl)) (fun _ _ _ h => h) (Or.inl ⟨by rfl,?_⟩) ?_ ?_
                   rotate_left
                   ·intro w'
                    go_simp
                    with_reducible rfl
                   rotate_left
                   ·simp only [Act.put,List.setIfInBounds_toArray,List.set_cons_zero,List.set_cons_succ,i64_w,i32_w]
                    rfl
                   refine pure_ (i:=37) (N:=some 86) (v:=?_) (a':=?_) #[true,true,true,true,true,true,true,true,true,true,true,true,true,true,true,true,true,true,true,true,true,true,true,true,true,true,true,true,true,true,true,true,true,true,true,true,true,true] rfl rfl (any_of HT_.out (by kernel_rfl)) (fun _ _ _ h => h) (Or.inl ⟨by rfl,?_⟩) ?_ ?_
                   rotate_left
                   ·intro w'
                    go_simp
                    with_reducible rfl
                   rotate_left
                   ·simp only [Act.put,List.setIfInBounds_toArray,List.set_cons_zero,List.set_cons_succ,i64_w,i32_w]
                    rfl
                   refine done_ (done_of HT_.out (by kernel_rfl)) ?_
                   try go_wp2
                   go_meet
                   case rel => exact ⟨_,(t647),H',⟨by have:=HK1.out;have:=HJ5.out;first|omega|exact Nat.le_refl _⟩,⟨by (with_reducible repeat (first|apply Kd.S_alloc|apply Kd.S_drewN|apply Kd.S_drew));exact Kd.S_mono HO649.out (fun _ hk => trivial)⟩,⟨by repeat (first|(with_reducible first|exact HB.out|apply below_alloc|apply pw_below_drewN|apply below_drew1)|exact HB.out)⟩⟩
                  ·replace c30:=Bool.eq_false_iff.mpr c30
                   subst c30
                   have H1 : (none) = some r:=by rw [if_neg (show ¬ (false = true) by decide)] at H;exact H
                   clear H
                   have H:=H1
                   clear H1
                   exact absurd H (by simp)
                 ·rw [if_neg c28] at H
                  exact absurd H (by simp)
                ·replace c27:=Bool.eq_false_iff.mpr c27
                 subst c27
                 have H1 : (none) = some r:=by rw [if_neg (show ¬ (false = true) by decide)] at H;exact H
                 clear H
                 have H:=H1
                 clear H1
                 exact absurd H (by simp)
               ·rw [if_neg c25] at H
                exact absurd H (by simp)
              ·rw [if_neg c24] at H
               exact absurd H (by simp)
             ·rw [if_neg c23] at H
              have c23b0 : ((t647.length : Int) == (wrap64 ((x5_1.length : Int) + 1))) = false:=beq_eq_false_iff_ne.mpr c23
              have c23b1 : ((t647.length : Int) != (wrap64 ((x5_1.length : Int) + 1))) = true:=bne_iff_ne.mpr c23
              exact absurd H (by simp)
            ·replace c22:=Bool.eq_false_iff.mpr c22
             subst c22
             have H1 : (none) = some r:=by rw [if_neg (show ¬ (false = true) by decide)] at H;exact H
             clear H
             have H:=H1
             clear H1
             exact absurd H (by simp)
           ·rw [if_neg c20] at H
            have c20b0 : (t653 == 0) = false:=beq_eq_false_iff_ne.mpr c20
            have c20b1 : (t653 != 0) = true:=bne_iff_ne.mpr c20
            exact absurd H (by simp)
          ·rw [if_neg c18] at H
           have c18b0 : (t650 == 0) = false:=beq_eq_false_iff_ne.mpr c18
           have c18b1 : (t650 != 0) = true:=bne_iff_ne.mpr c18
           (first|rw [c18b0]|(simp only [i64_w,i32_w];rw [c18b0])|rw [c18b1]|skip)
           by_cases c39 : (t647.length : Int) = 0
           ·rw [if_pos c39] at H
            have c39b0 : ((t647.length : Int) == 0) = true:=beq_iff_eq.mpr c39
            have c39b1 : ((t647.length : Int) != 0) = false:=bne_eq_false_iff_eq.mpr c39
            clear c39
            have H':=Aside0.mk H
            clear H
            obtain ⟨Ao40,co40,eo40⟩:=Kd.S_slice HO649.out
            subst eo40
            go_wp2
            go_meet
            case rel => exact ⟨_,(x5_1),H',⟨by have:=HK1.out;have:=HJ5.out;first|omega|exact Nat.le_refl _⟩,⟨by (with_reducible repeat (first|apply Kd.S_alloc|apply Kd.S_drewN|apply Kd.S_drew));exact Kd.S_mono HO_5.out (fun _ hk => trivial)⟩,⟨by repeat (first|(with_reducible first|exact HB.out|apply below_alloc|apply pw_below_drewN|apply below_drew1)|exact HB.out)⟩⟩
           ·rw [if_neg c39] at H
            exact absurd H (by simp)
         case rest =>
          clear HC13
          try clear c1
          try clear c2
          try clear p2
          try clear c3
          try clear q3
          try clear c6
          try clear p6
          try clear q6
          try clear hx6
          try clear c18
          try clear c18b0
          try clear c18b1
          try clear c19
          try clear c20
          try clear c20b0
          try clear c20b1
          try clear c22
          try clear c23
          try clear c23b0
          try clear c23b1
          try clear c24
          try clear c25
          try clear c26
          try clear c27
          try clear c28
          try clear c28b0
          try clear c28b1
          try clear c30
          try clear q36
          try clear c39
          try clear c39b0
          try clear c39b1
          try clear hx651_0
          try clear hx651_1
          try clear hx651_2
          try clear hx651_3
          try clear hx651_4
          try clear hx662_0
          try clear hx662_1
          try clear hx662_2
          try clear hx662_3
          try clear hx662_4
          try clear hx663_0
          try clear hx663_1
          try clear hx663_2
          try clear hx663_3
          try clear hx663_4
          try clear p651
          try clear p662
          try clear p663
          try clear q36
          try clear q651
          try clear q662
          try clear q663
          obtain ⟨kq,x5_12,HA,HJ12,HO_5,HB⟩:=hcut
          cases kq with
          | zero => exact absurd HA.out (by simp [cofferlaw14_StackGrows.j2])
          | succ kj12 =>
           have H:=HA.out
           clear HA
           simp only [cofferlaw14_StackGrows.j2] at H
           have HC41:=Aside0.mk H
           clear H
           go_upto_if 94 with (fail)
           go_cut [5] (fun v5 wc => ∃ (kq : Nat) (x5_40 : List (S25)),Aside0 (cofferlaw14_StackGrows.j4 kq l0 l1 x5_40 x6_1 = some r) ∧ Aside0 (kq ≤ kj12) ∧ Aside0 (Kd.S k25 25 wc w.heap.size (fun _ => True) v5 x5_40) ∧ Aside0 (Below w.heap.size w wc))
           case first =>
            have H:=HC41.out
            clear HC41
            by_cases c42 : x6_1 < (l1.length : Int)
            ·rw [if_pos c42] at H
             have c42b0 : decide (x6_1 < (l1.length : Int)) = true:=decide_eq_true c42
             clear c42
             (first|rw [c42b0]|(simp only [i64_w,i32_w];rw [c42b0])|rw [c42b1]|skip)
             by_cases c43 : 0 ≤ x6_1
             ·rw [if_pos c43] at H
              have c43b0 : decide (0 ≤ x6_1) = true:=decide_eq_true c43
              clear c43
              replace H:=Option.bind_eq_some_iff.mp H
              obtain ⟨⟨t666,t667⟩,A440,H⟩:=H
              replace H : ((stack_Get.f x5_12 (rd l1 x6_1)).bind fun bt671 => (if t667 = 0 then (if bt671.2.2.2.2.2 = 0 then (cofferlaw14_StackGrows.j3 kj12 l0 l1 x5_12 x6_1 t666 t667 false) else (cofferlaw14_StackGrows.j3 kj12 l0 l1 x5_12 x6_1 t666 t667 true)) else (if bt671.2.2.2.2.2 = 0 then (cofferlaw14_StackGrows.j3 kj12 l0 l1 x5_12 x6_1 t666 t667 true) else (cofferlaw14_StackGrows.j3 kj12 l0 l1 x5_12 x6_1 t666 t667 (t667 != 72))))) = some r:=H
              have A44:=Aside0.mk A440
              clear A440
              replace H:=Option.bind_eq_some_iff.mp H
              obtain ⟨⟨t671,t672,t673,t674,t675,t678⟩,A450,H⟩:=H
              replace H : (if t667 = 0 then (if t678 = 0 then (cofferlaw14_StackGrows.j3 kj12 l0 l1 x5_12 x6_1 t666 t667 false) else (cofferlaw14_StackGrows.j3 kj12 l0 l1 x5_12 x6_1 t666 t667 true)) else (if t678 = 0 then (cofferlaw14_StackGrows.j3 kj12 l0 l1 x5_12 x6_1 t666 t667 true) else (cofferlaw14_StackGrows.j3 kj12 l0 l1 x5_12 x6_1 t666 t667 (t667 != 72)))) = some r:=H
              have A45:=Aside0.mk A450
              clear A450
              have HC46:=Aside0.mk H
              clear H
              have p665 : 0 ≤ (x6_1 : Int):=of_decide_eq_true (by first|(with_reducible assumption)|assumption)
              have q665 : x6_1 < (l1.length : Int):=of_decide_eq_true (by first|(with_reducible assumption)|assumption)
              obtain ⟨ad665,e665,hx665_0⟩:=Kd.at_int HR1.out x6_1 p665 q665
              cases e665
              replace hx665_0:=(HB.out.cell (World.block_lt_of_cell? w _ hx665_0)).trans hx665_0
              replace p665:=eq_true p665
              replace q665:=eq_true q665
              obtain ⟨Ao47,co47,eo47⟩:=Kd.S_slice HO_5.out
              subst eo47
              go_upto_region 18 with (first|((with_reducible refine gate_callee (f:=18) rfl ?_);refine goesL_ (some 101) rfl rfl Try.func18 (by kernel_rfl) rfl #[.slice Ao47 x5_12.length co47,.int .i64 (rd l1 x6_1)] rfl (by (try simp only [List.map_toArray,List.map_cons,List.map_nil]);first|done|rfl|(simp only [List.length_drop,List.length_take];rfl)) ?_;(with_reducible refine (stack_Remove.calls kj12 _ _ x5_12 (rd l1 x6_1) t666 t667 _ ?side1 ?side2 A44.out).mono ?_);(case side1 => repeat (first|exact (Kd.S_reads' HO_5.out).2.2|(with_reducible refine Kd.C_alloc ?_ _)|(with_reducible refine Kd.C_drewN ?_ _)|(with_reducible refine Kd.C_drew ?_)));(case side2 => exact (Kd.S_reads' HO_5.out).2.1);rintro e w48 ⟨v668,rfl,ho0,hb⟩;refine ⟨_,rfl,?_⟩;have n0_:=Aside0.mk (Kd.S_elder' (by (with_reducible repeat (first|apply Kd.S_alloc|apply Kd.S_drewN|apply Kd.S_drew));exact HO_5.out) (Kd.S_base ho0) hb);have n1_:=Aside0.mk (Kd.S_lower (Kd.S_new' ho0 (Kd.S_lt (by (with_reducible repeat (first|apply Kd.S_alloc|apply Kd.S_drewN|apply Kd.S_drew));exact HO_5.out))) (below_size (by repeat (first|(with_reducible first|exact HB.out|apply below_alloc|apply pw_below_drewN|apply below_drew1)|exact HB.out))));have n2_:=Aside0.mk (below_step (by repeat (first|(with_reducible first|exact HB.out|apply below_alloc|apply pw_below_drewN|apply below_drew1)|exact HB.out)) hb);clear HO_5;clear HB;have HO_5:=n0_;have HO669:=n1_;have HB:=n2_;clear n0_ n1_ n2_;(try clear hb);(try clear hb2);(try clear hk);(try clear hi);(try clear ho0);have p670 : 0 ≤ (x6_1 : Int):=of_decide_eq_true (by first|(with_reducible assumption)|assumption);have q670 : x6_1 < (l1.length : Int):=of_decide_eq_true (by first|(with_reducible assumption)|assumption);obtain ⟨ad670,e670,hx670_0⟩:=Kd.at_int HR1.out x6_1 p670 q670;obtain rfl : ad665 = ad670:=(by injection e670);replace hx670_0:=(HB.out.cell (World.block_lt_of_cell? w _ hx670_0)).trans hx670_0;replace p670:=eq_true p670;replace q670:=eq_true q670)|((with_reducible refine gate_callee (f:=31) rfl ?_);refine goesL_ (some 110) rfl rfl Try.func31 (by kernel_rfl) rfl #[.slice Ao47 x5_12.length co47,.int .i64 (rd l1 x6_1)] rfl (by (try simp only [List.map_toArray,List.map_cons,List.map_nil]);first|done|rfl|(simp only [List.length_drop,List.length_take];rfl)) ?_;(with_reducible refine (stack_Get.calls _ _ x5_12 (rd l1 x6_1) t671 t672 t673 t674 t675 t678 _ ?side1 ?side2 A45.out).mono ?_);(case side1 => repeat (first|exact (Kd.S_reads' HO_5.out).2.2|(with_reducible refine Kd.C_alloc ?_ _)|(with_reducible refine Kd.C_drewN ?_ _)|(with_reducible refine Kd.C_drew ?_)));(case side2 => exact (Kd.S_reads' HO_5.out).2.1);rintro e w49 ⟨v676,rfl,ho0,hb⟩;refine ⟨_,rfl,?_⟩;have n0_:=Aside0.mk (Kd.S_elder' (by (with_reducible repeat (first|apply Kd.S_alloc|apply Kd.S_drewN|apply Kd.S_drew));exact HO_5.out) (Kd.R_base ho0) hb);have n1_:=Aside0.mk (Kd.S_elder' (by (with_reducible repeat (first|apply Kd.S_alloc|apply Kd.S_drewN|apply Kd.S_drew));exact HO669.out) (Kd.R_base ho0) hb);have n2_:=Aside0.mk (Kd.R_lower ho0 (below_size (by repeat (first|(with_reducible first|exact HB.out|apply below_alloc|apply pw_below_drewN|apply below_drew1)|exact HB.out))));have n3_:=Aside0.mk (below_step (by repeat (first|(with_reducible first|exact HB.out|apply below_alloc|apply pw_below_drewN|apply below_drew1)|exact HB.out)) hb);clear HO_5;clear HO669;clear HB;have HO_5:=n0_;have HO669:=n1_;have HO677:=n2_;have HB:=n3_;clear n0_ n1_ n2_ n3_;(try clear hb);(try clear hb2);(try clear hk);(try clear hi);(try clear ho0))|((with_reducible refine gate_dst (N:=11) rfl ?_);(try (refine gate_guard (by rfl) ?_;dsimp only));refine box_event ?hg (N:=11) ?hd (cs:=#[.string (⟨#[]⟩ : ByteArray),.int .i64 0,.bool false,.string (⟨#[]⟩ : ByteArray),.slice none 0 0]) (t:=25) ?hr ?_;(case hd => rfl);(case hg => rfl);(case hr => first|(go_simp;done)|(go_simp;rfl));intro gb679 hg w50 hbox hb;have n0_:=Aside0.mk (Kd.S_below (Kd.S_elderB (by (with_reducible repeat (first|apply Kd.S_alloc|apply Kd.S_drewN|apply Kd.S_drew));exact HO_5.out) gb679 (Nat.le_of_eq hg.symm)) hb);have n1_:=Aside0.mk (Kd.S_below (Kd.S_elderB (by (with_reducible repeat (first|apply Kd.S_alloc|apply Kd.S_drewN|apply Kd.S_drew));exact HO669.out) gb679 (Nat.le_of_eq hg.symm)) hb);have n2_:=Aside0.mk (Kd.R_below (by (with_reducible repeat (first|apply Kd.R_alloc|apply Kd.R_drewN|apply Kd.R_drew));exact HO677.out) hb);have n3_:=Aside0.mk (below_step (by repeat (first|(with_reducible first|exact HB.out|apply below_alloc|apply pw_below_drewN|apply below_drew1)|exact HB.out)) hb);have n4_:=Aside0.mk (hbox);have n5_:=Aside0.mk ((by rw [hg];exact (below_size (by repeat (first|(with_reducible first|exact HB.out|apply below_alloc|apply pw_below_drewN|apply below_drew1)|exact HB.out))) : w.heap.size ≤ gb679));have n6_:=Aside0.mk ((by rw [hg];exact (below_size (by repeat (first|(with_reducible first|exact HB.out|apply below_alloc|apply pw_below_drewN|apply below_drew1)|exact HB.out))) : w.heap.size ≤ gb679));clear HO_5;clear HO669;clear HO677;clear HB;have HO_5:=n0_;have HO669:=n1_;have HO677:=n2_;have HB:=n3_;have BK679:=n4_;have GW679:=n5_;have GE679:=n6_;clear n0_ n1_ n2_ n3_ n4_ n5_ n6_;clear hb hbox hg;have hcz51_0 : w50.cell? ⟨gb679,0,none⟩ = some (.string (⟨#[]⟩ : ByteArray)):=(blk_cell BK679.out 0).trans rfl;have hcz51_1 : w50.cell? ⟨gb679,1,none⟩ = some (.int .i64 0):=(blk_cell BK679.out 1).trans rfl;have hcz51_2 : w50.cell? ⟨gb679,2,none⟩ = some (.bool false):=(blk_cell BK679.out 2).trans rfl;have hcz51_3 : w50.cell? ⟨gb679,3,none⟩ = some (.string (⟨#[]⟩ : ByteArray)):=(blk_cell BK679.out 3).trans rfl;have hcz51_4 : w50.cell? ⟨gb679,4,none⟩ = some (.slice none 0 0):=(blk_cell BK679.out 4).trans rfl;have hfz51_0:=blk_frozen BK679.out 0;have hfz51_1:=blk_frozen BK679.out 1;have hfz51_2:=blk_frozen BK679.out 2;have hfz51_3:=blk_frozen BK679.out 3;have hfz51_4:=blk_frozen BK679.out 4;obtain ⟨Ao52,co52,eo52⟩:=Kd.R_slice HO677.out;subst eo52))
              (try simp only [Act.put,List.setIfInBounds_toArray,List.set_cons_zero,List.set_cons_succ])
              go_cut [125] (fun v125 wc => ∃ (kq : Nat) (x125_45 : Bool),v125 = .bool x125_45 ∧ Aside0 (cofferlaw14_StackGrows.j3 kq l0 l1 x5_12 x6_1 t666 t667 x125_45 = some r) ∧ Aside0 (kq ≤ kj12) ∧ Aside0 (Kd.S k25 25 wc w.heap.size (fun k_ => some k_ ≠ (v668 : Value).ownBlock ∧ some k_ ≠ ((.slice Ao52 t675.length co52) : Value).ownBlock ∧ k_ ≠ gb679) (.slice Ao47 x5_12.length co47) x5_12) ∧ Aside0 (Kd.S k25 25 wc w.heap.size (fun k_ => some k_ ≠ ((.slice Ao47 x5_12.length co47) : Value).ownBlock ∧ some k_ ≠ ((.slice Ao52 t675.length co52) : Value).ownBlock ∧ k_ ≠ gb679) v668 t666) ∧ Aside0 (Kd.R k49 49 wc w.heap.size (fun _ => True) (.slice Ao52 t675.length co52) t675) ∧ Aside0 (wc.heap[gb679]? = some (.cells #[.string t671,.int .i64 t672,.bool t673,.string t674,(.slice Ao52 t675.length co52)] 25 (0,0))) ∧ Aside0 (Below w.heap.size w wc))
              case first =>
               have H:=HC46.out
               clear HC46
               by_cases c53 : t667 = 0
               ·rw [if_pos c53] at H
                have c53b0 : (t667 == 0) = true:=beq_iff_eq.mpr c53
                have c53b1 : (t667 != 0) = false:=bne_eq_false_iff_eq.mpr c53
                clear c53
                (first|rw [c53b0]|(simp only [i64_w,i32_w];rw [c53b0])|rw [c53b1]|skip)
                by_cases c54 : t678 = 0
                ·rw [if_pos c54] at H
                 have c54b0 : (t678 == 0) = true:=beq_iff_eq.mpr c54
                 have c54b1 : (t678 != 0) = false:=bne_eq_false_iff_eq.mpr c54
                 clear c54
                 have H':=Aside0.mk H
                 clear H
                 go_wp2
                 go_meet
                 case rel => exact ⟨_,(false),(by first|rfl|(simp;done)|(simp [Go.Proofs.Ytmgiolijjheodaa.Z.bne_nil,Go.Proofs.Ytmgiolijjheodaa.Z.beq_nil];done)|(simp [*];done)),H',⟨by have:=HK1.out;have:=HJ5.out;have:=HJ12.out;first|omega|exact Nat.le_refl _⟩,⟨by (with_reducible repeat (first|apply Kd.S_alloc|apply Kd.S_drewN|apply Kd.S_drew));exact Kd.S_mono (Kd.S_far (p:=⟨gb679,4,none⟩) (Kd.S_far (p:=⟨gb679,3,none⟩) (Kd.S_far (p:=⟨gb679,2,none⟩) (Kd.S_far (p:=⟨gb679,1,none⟩) (Kd.S_far (p:=⟨gb679,0,none⟩) (Kd.S_mono HO_5.out (fun k_ hk => (⟨hk,hk.2⟩ : _ ∧ k_ ≠ gb679))) (fun _ hk => hk.2) (.string t671)) (fun _ hk => hk.2) (.int .i64 t672)) (fun _ hk => hk.2) (.bool t673)) (fun _ hk => hk.2) (.string t674)) (fun _ hk => hk.2) (.slice Ao52 t675.length co52)) (fun _ hk => ⟨hk.1.1.1.2,⟨hk.1.1.2,hk.1.2⟩⟩)⟩,⟨by (with_reducible repeat (first|apply Kd.S_alloc|apply Kd.S_drewN|apply Kd.S_drew));exact Kd.S_mono (Kd.S_far (p:=⟨gb679,4,none⟩) (Kd.S_far (p:=⟨gb679,3,none⟩) (Kd.S_far (p:=⟨gb679,2,none⟩) (Kd.S_far (p:=⟨gb679,1,none⟩) (Kd.S_far (p:=⟨gb679,0,none⟩) (Kd.S_mono HO669.out (fun k_ hk => (⟨hk,hk.2⟩ : _ ∧ k_ ≠ gb679))) (fun _ hk => hk.2) (.string t671)) (fun _ hk => hk.2) (.int .i64 t672)) (fun _ hk => hk.2) (.bool t673)) (fun _ hk => hk.2) (.string t674)) (fun _ hk => hk.2) (.slice Ao52 t675.length co52)) (fun _ hk => ⟨hk.1.1.1.2,⟨hk.1.1.2,hk.1.2⟩⟩)⟩,⟨by (with_reducible repeat (first|apply Kd.R_alloc|apply Kd.R_drewN|apply Kd.R_drew));exact Kd.R_mono (Kd.R_far (p:=⟨gb679,4,none⟩) (Kd.R_far (p:=⟨gb679,3,none⟩) (Kd.R_far (p:=⟨gb679,2,none⟩) (Kd.R_far (p:=⟨gb679,1,none⟩) (Kd.R_far (p:=⟨gb679,0,none⟩) (Kd.R_types HO677.out BK679.out (by decide)) (fun _ hk => hk.2) (.string t671)) (fun _ hk => hk.2) (.int .i64 t672)) (fun _ hk => hk.2) (.bool t673)) (fun _ hk => hk.2) (.string t674)) (fun _ hk => hk.2) (.slice Ao52 t675.length co52)) (fun _ hk => trivial)⟩,⟨by (with_reducible repeat (first|refine blk_drewN ?_ _|refine blk_drew ?_|refine blk_alloc ?_ _));refine blk_put (cs:=#[.string t671,.int .i64 t672,.bool t673,.string t674,.slice none 0 0]) ?_ 4 _ rfl;(with_reducible repeat (first|refine blk_drewN ?_ _|refine blk_drew ?_|refine blk_alloc ?_ _));refine blk_put (cs:=#[.string t671,.int .i64 t672,.bool t673,.string (⟨#[]⟩ : ByteArray),.slice none 0 0]) ?_ 3 _ rfl;(with_reducible repeat (first|refine blk_drewN ?_ _|refine blk_drew ?_|refine blk_alloc ?_ _));refine blk_put (cs:=#[.string t671,.int .i64 t672,.bool false,.string (⟨#[]⟩ : ByteArray),.slice none 0 0]) ?_ 2 _ rfl;(with_reducible repeat (first|refine blk_drewN ?_ _|refine blk_drew ?_|refine blk_alloc ?_ _));refine blk_put (cs:=#[.string t671,.int .i64 0,.bool false,.string (⟨#[]⟩ : ByteArray),.slice none 0 0]) ?_ 1 _ rfl;(with_reducible repeat (first|refine blk_drewN ?_ _|refine blk_drew ?_|refine blk_alloc ?_ _));refine blk_put (cs:=#[.string (⟨#[]⟩ : ByteArray),.int .i64 0,.bool false,.string (⟨#[]⟩ : ByteArray),.slice none 0 0]) ?_ 0 _ rfl;(with_reducible repeat (first|refine blk_drewN ?_ _|refine blk_drew ?_|refine blk_alloc ?_ _));exact BK679.out⟩,⟨by repeat (first|(with_reducible first|exact HB.out|apply below_alloc|apply pw_below_drewN|apply below_drew1|refine below_set ?_ GE679.out)|exact HB.out)⟩⟩
                ·rw [if_neg c54] at H
                 have c54b0 : (t678 == 0) = false:=beq_eq_false_iff_ne.mpr c54
                 have c54b1 : (t678 != 0) = true:=bne_iff_ne.mpr c54
                 exact absurd H (by simp [cofferlaw14_StackGrows.j3_true])
               ·rw [if_neg c53] at H
                have c53b0 : (t667 == 0) = false:=beq_eq_false_iff_ne.mpr c53
                have c53b1 : (t667 != 0) = true:=bne_iff_ne.mpr c53
                (first|rw [c53b0]|(simp only [i64_w,i32_w];rw [c53b0])|rw [c53b1]|skip)
                by_cases c55 : t678 = 0
                ·rw [if_pos c55] at H
                 have c55b0 : (t678 == 0) = true:=beq_iff_eq.mpr c55
                 have c55b1 : (t678 != 0) = false:=bne_eq_false_iff_eq.mpr c55
                 clear c55
                 exact absurd H (by simp [cofferlaw14_StackGrows.j3_true])
                ·rw [if_neg c55] at H
                 have c55b0 : (t678 == 0) = false:=beq_eq_false_iff_ne.mpr c55
                 have c55b1 : (t678 != 0) = true:=bne_iff_ne.mpr c55
                 have H':=Aside0.mk H
                 clear H
                 go_wp2
                 go_meet
                 case rel => exact ⟨_,((t667 != 72)),(by first|rfl|(simp;done)|(simp [Go.Proofs.Ytmgiolijjheodaa.Z.bne_nil,Go.Proofs.Ytmgiolijjheodaa.Z.beq_nil];done)|(simp [*];done)),H',⟨by have:=HK1.out;have:=HJ5.out;have:=HJ12.out;first|omega|exact Nat.le_refl _⟩,⟨by (with_reducible repeat (first|apply Kd.S_alloc|apply Kd.S_drewN|apply Kd.S_drew));exact Kd.S_mono (Kd.S_far (p:=⟨gb679,4,none⟩) (Kd.S_far (p:=⟨gb679,3,none⟩) (Kd.S_far (p:=⟨gb679,2,none⟩) (Kd.S_far (p:=⟨gb679,1,none⟩) (Kd.S_far (p:=⟨gb679,0,none⟩) (Kd.S_mono HO_5.out (fun k_ hk => (⟨hk,hk.2⟩ : _ ∧ k_ ≠ gb679))) (fun _ hk => hk.2) (.string t671)) (fun _ hk => hk.2) (.int .i64 t672)) (fun _ hk => hk.2) (.bool t673)) (fun _ hk => hk.2) (.string t674)) (fun _ hk => hk.2) (.slice Ao52 t675.length co52)) (fun _ hk => ⟨hk.1.1.1.2,⟨hk.1.1.2,hk.1.2⟩⟩)⟩,⟨by (with_reducible repeat (first|apply Kd.S_alloc|apply Kd.S_drewN|apply Kd.S_drew));exact Kd.S_mono (Kd.S_far (p:=⟨gb679,4,none⟩) (Kd.S_far (p:=⟨gb679,3,none⟩) (Kd.S_far (p:=⟨gb679,2,none⟩) (Kd.S_far (p:=⟨gb679,1,none⟩) (Kd.S_far (p:=⟨gb679,0,none⟩) (Kd.S_mono HO669.out (fun k_ hk => (⟨hk,hk.2⟩ : _ ∧ k_ ≠ gb679))) (fun _ hk => hk.2) (.string t671)) (fun _ hk => hk.2) (.int .i64 t672)) (fun _ hk => hk.2) (.bool t673)) (fun _ hk => hk.2) (.string t674)) (fun _ hk => hk.2) (.slice Ao52 t675.length co52)) (fun _ hk => ⟨hk.1.1.1.2,⟨hk.1.1.2,hk.1.2⟩⟩)⟩,⟨by (with_reducible repeat (first|apply Kd.R_alloc|apply Kd.R_drewN|apply Kd.R_drew));exact Kd.R_mono (Kd.R_far (p:=⟨gb679,4,none⟩) (Kd.R_far (p:=⟨gb679,3,none⟩) (Kd.R_far (p:=⟨gb679,2,none⟩) (Kd.R_far (p:=⟨gb679,1,none⟩) (Kd.R_far (p:=⟨gb679,0,none⟩) (Kd.R_types HO677.out BK679.out (by decide)) (fun _ hk => hk.2) (.string t671)) (fun _ hk => hk.2) (.int .i64 t672)) (fun _ hk => hk.2) (.bool t673)) (fun _ hk => hk.2) (.string t674)) (fun _ hk => hk.2) (.slice Ao52 t675.length co52)) (fun _ hk => trivial)⟩,⟨by (with_reducible repeat (first|refine blk_drewN ?_ _|refine blk_drew ?_|refine blk_alloc ?_ _));refine blk_put (cs:=#[.string t671,.int .i64 t672,.bool t673,.string t674,.slice none 0 0]) ?_ 4 _ rfl;(with_reducible repeat (first|refine blk_drewN ?_ _|refine blk_drew ?_|refine blk_alloc ?_ _));refine blk_put (cs:=#[.string t671,.int .i64 t672,.bool t673,.string (⟨#[]⟩ : ByteArray),.slice none 0 0]) ?_ 3 _ rfl;(with_reducible repeat (first|refine blk_drewN ?_ _|refine blk_drew ?_|refine blk_alloc ?_ _));refine blk_put (cs:=#[.string t671,.int .i64 t672,.bool false,.string (⟨#[]⟩ : ByteArray),.slice none 0 0]) ?_ 2 _ rfl;(with_reducible repeat (first|refine blk_drewN ?_ _|refine blk_drew ?_|refine blk_alloc ?_ _));refine blk_put (cs:=#[.string t671,.int .i64 0,.bool false,.string (⟨#[]⟩ : ByteArray),.slice none 0 0]) ?_ 1 _ rfl;(with_reducible repeat (first|refine blk_drewN ?_ _|refine blk_drew ?_|refine blk_alloc ?_ _));refine blk_put (cs:=#[.string (⟨#[]⟩ : ByteArray),.int .i64 0,.bool false,.string (⟨#[]⟩ : ByteArray),.slice none 0 0]) ?_ 0 _ rfl;(with_reducible repeat (first|refine blk_drewN ?_ _|refine blk_drew ?_|refine blk_alloc ?_ _));exact BK679.out⟩,⟨by repeat (first|(with_reducible first|exact HB.out|apply below_alloc|apply pw_below_drewN|apply below_drew1|refine below_set ?_ GE679.out)|exact HB.out)⟩⟩
              case rest =>
               clear HC46
               try clear c1
               try clear c2
               try clear p2
               try clear c3
               try clear q3
               try clear c4
               try clear c5
               try clear c6
               try clear p6
               try clear q6
               try clear hx6
               try clear c18
               try clear c18b0
               try clear c18b1
               try clear c19
               try clear c20
               try clear c20b0
               try clear c20b1
               try clear c22
               try clear c23
               try clear c23b0
               try clear c23b1
               try clear c24
               try clear c25
               try clear c26
               try clear c27
               try clear c28
               try clear c28b0
               try clear c28b1
               try clear c30
               try clear c31
               try clear q36
               try clear c39
               try clear c39b0
               try clear c39b1
               try clear c42
               try clear c42b0
               try clear c42b1
               try clear c43
               try clear c43b0
               try clear c53
               try clear c53b0
               try clear c53b1
               try clear c54
               try clear c54b0
               try clear c54b1
               try clear c55
               try clear c55b0
               try clear c55b1
               try clear hcz51_0
               try clear hcz51_1
               try clear hcz51_2
               try clear hcz51_3
               try clear hcz51_4
               try clear hfz51_0
               try clear hfz51_1
               try clear hfz51_2
               try clear hfz51_3
               try clear hfz51_4
               try clear hx651_0
               try clear hx651_1
               try clear hx651_2
               try clear hx651_3
               try clear hx651_4
               try clear hx662_0
               try clear hx662_1
               try clear hx662_2
               try clear hx662_3
               try clear hx662_4
               try clear hx663_0
               try clear hx663_1
               try clear hx663_2
               try clear hx663_3
               try clear hx663_4
               try clear hx665_0
               try clear hx670_0
               try clear p2
               try clear p6
               try clear p651
               try clear p662
               try clear p663
               try clear p665
               try clear p670
               try clear q3
               try clear q36
               try clear q6
               try clear q651
               try clear q662
               try clear q663
               try clear q665
               try clear q670
               obtain ⟨kq,x125_45,rfl,HA,HJ45,HO_5,HO_7,HO_680004,BK679,HB⟩:=hcut
               cases kq with
               | zero => exact absurd HA.out (by simp [cofferlaw14_StackGrows.j3])
               | succ kj45 =>
                have H:=HA.out
                clear HA
                simp only [cofferlaw14_StackGrows.j3] at H
                by_cases c56 : x125_45 = true
                ·subst c56
                 have H1 : (none) = some r:=by rw [if_pos rfl] at H;exact H
                 clear H
                 have H:=H1
                 clear H1
                 exact absurd H (by simp)
                ·replace c56:=Bool.eq_false_iff.mpr c56
                 subst c56
                 have H1 : (if t667 = 0 then (if 0 ≤ x6_1 then (if x6_1 < (l1.length : Int) then ((stack_Remove.f kj45 t666 (rd l1 x6_1)).bind fun bt681 => (if bt681.2 = 72 then (if (t666.length : Int) = (wrap64 ((x5_12.length : Int) - 1)) then (cofferlaw14_StackGrows.j4 kj45 l0 l1 t666 x6_1) else (none)) else (none))) else (none)) else (none)) else (cofferlaw14_StackGrows.j4 kj45 l0 l1 x5_12 x6_1)) = some r:=by rw [if_neg (show ¬ (false = true) by decide)] at H;exact H
                 clear H
                 have H:=H1
                 clear H1
                 by_cases c57 : t667 = 0
                 ·rw [if_pos c57] at H
                  have c57b0 : (t667 == 0) = true:=beq_iff_eq.mpr c57
                  have c57b1 : (t667 != 0) = false:=bne_eq_false_iff_eq.mpr c57
                  clear c57
                  by_cases c58 : 0 ≤ x6_1
                  ·rw [if_pos c58] at H
                   have c58b0 : decide (0 ≤ x6_1) = true:=decide_eq_true c58
                   clear c58
                   by_cases c59 : x6_1 < (l1.length : Int)
                   ·rw [if_pos c59] at H
                    have c59b0 : decide (x6_1 < (l1.length : Int)) = true:=decide_eq_true c59
                    clear c59
                    replace H:=Option.bind_eq_some_iff.mp H
                    obtain ⟨⟨t681,t682⟩,A600,H⟩:=H
                    replace H : (if t682 = 72 then (if (t666.length : Int) = (wrap64 ((x5_12.length : Int) - 1)) then (cofferlaw14_StackGrows.j4 kj45 l0 l1 t666 x6_1) else (none)) else (none)) = some r:=H
                    have A60:=Aside0.mk A600
                    clear A600
                    by_cases c61 : t682 = 72
                    ·rw [if_pos c61] at H
                     have c61b0 : (t682 == 72) = true:=beq_iff_eq.mpr c61
                     have c61b1 : (t682 != 72) = false:=bne_eq_false_iff_eq.mpr c61
                     clear c61
                     by_cases c62 : (t666.length : Int) = (wrap64 ((x5_12.length : Int) - 1))
                     ·rw [if_pos c62] at H
                      have c62b0 : ((t666.length : Int) == (wrap64 ((x5_12.length : Int) - 1))) = true:=beq_iff_eq.mpr c62
                      have c62b1 : ((t666.length : Int) != (wrap64 ((x5_12.length : Int) - 1))) = false:=bne_eq_false_iff_eq.mpr c62
                      clear c62
                      have H':=Aside0.mk H
                      clear H
                      have p680 : 0 ≤ (x6_1 : Int):=of_decide_eq_true (by first|(with_reducible assumption)|assumption)
                      have q680 : x6_1 < (l1.length : Int):=of_decide_eq_true (by first|(with_reducible assumption)|assumption)
                      obtain ⟨ad680,e680,hx680_0⟩:=Kd.at_int HR1.out x6_1 p680 q680
                      obtain rfl : ad665 = ad680:=(by injection e680)
                      replace hx680_0:=(HB.out.cell (World.block_lt_of_cell? w _ hx680_0)).trans hx680_0
                      replace p680:=eq_true p680
                      replace q680:=eq_true q680
                      obtain ⟨Ao63,co63,eo63⟩:=Kd.S_slice HO_7.out
                      subst eo63
                      go_wp2_with (first|((with_reducible refine gate_callee (f:=18) rfl ?_);refine goesL_ (some 134) rfl rfl Try.func18 (by kernel_rfl) rfl #[.slice Ao63 t666.length co63,.int .i64 (rd l1 x6_1)] rfl (by (try simp only [List.map_toArray,List.map_cons,List.map_nil]);first|done|rfl|(simp only [List.length_drop,List.length_take];rfl)) ?_;(with_reducible refine (stack_Remove.calls kj45 _ _ t666 (rd l1 x6_1) t681 t682 _ ?side1 ?side2 A60.out).mono ?_);(case side1 => repeat (first|exact (Kd.S_reads' HO_7.out).2.2|(with_reducible refine Kd.C_alloc ?_ _)|(with_reducible refine Kd.C_drewN ?_ _)|(with_reducible refine Kd.C_drew ?_)));(case side2 => exact (Kd.S_reads' HO_7.out).2.1);rintro e w64 ⟨v683,rfl,ho0,hb⟩;refine ⟨_,rfl,?_⟩;have n0_:=Aside0.mk (Kd.S_elder' (by (with_reducible repeat (first|apply Kd.S_alloc|apply Kd.S_drewN|apply Kd.S_drew));exact HO_5.out) (Kd.S_base ho0) hb);have n1_:=Aside0.mk (Kd.S_elder' (by (with_reducible repeat (first|apply Kd.S_alloc|apply Kd.S_drewN|apply Kd.S_drew));exact HO_7.out) (Kd.S_base ho0) hb);have n2_:=Aside0.mk (Kd.R_below (by (with_reducible repeat (first|apply Kd.R_alloc|apply Kd.R_drewN|apply Kd.R_drew));exact HO_680004.out) hb);have n3_:=Aside0.mk (Kd.S_lower (Kd.S_newB (Kd.S_new' (Kd.S_new' (Kd.S_new' ho0 (Kd.S_lt (by (with_reducible repeat (first|apply Kd.S_alloc|apply Kd.S_drewN|apply Kd.S_drew));exact HO_5.out))) (Kd.S_lt (by (with_reducible repeat (first|apply Kd.S_alloc|apply Kd.S_drewN|apply Kd.S_drew));exact HO_7.out))) (Kd.R_lt (by (with_reducible repeat (first|apply Kd.R_alloc|apply Kd.R_drewN|apply Kd.R_drew));exact HO_680004.out))) (g:=gb679) (o:=.cells #[.string t671,.int .i64 t672,.bool t673,.string t674,.slice Ao52 t675.length co52] 25 (0,0)) (by (with_reducible repeat (first|refine blk_drewN ?_ _|refine blk_drew ?_|refine blk_alloc ?_ _));exact BK679.out)) (below_size (by repeat (first|(with_reducible first|exact HB.out|apply below_alloc|apply pw_below_drewN|apply below_drew1|refine below_set ?_ GE679.out)|exact HB.out))));have n4_:=Aside0.mk (blk_below (g:=gb679) (o:=.cells #[.string t671,.int .i64 t672,.bool t673,.string t674,.slice Ao52 t675.length co52] 25 (0,0)) (by (with_reducible repeat (first|refine blk_drewN ?_ _|refine blk_drew ?_|refine blk_alloc ?_ _));exact BK679.out) hb);have n5_:=Aside0.mk (below_step (by repeat (first|(with_reducible first|exact HB.out|apply below_alloc|apply pw_below_drewN|apply below_drew1|refine below_set ?_ GE679.out)|exact HB.out)) hb);clear HO_5;clear HO_7;clear HO_680004;clear BK679;clear HB;have HO_5:=n0_;have HO_7:=n1_;have HO_680004:=n2_;have HO684:=n3_;have BK679:=n4_;have HB:=n5_;clear n0_ n1_ n2_ n3_ n4_ n5_;(try clear hb);(try clear hb2);(try clear hk);(try clear hi);(try clear ho0)))
                      go_meet
                      case rel => exact ⟨_,(t666),H',⟨by have:=HK1.out;have:=HJ5.out;have:=HJ12.out;have:=HJ45.out;first|omega|exact Nat.le_refl _⟩,⟨by (with_reducible repeat (first|apply Kd.S_alloc|apply Kd.S_drewN|apply Kd.S_drew));exact Kd.S_mono HO_7.out (fun _ hk => trivial)⟩,⟨by repeat (first|(with_reducible first|exact HB.out|apply below_alloc|apply pw_below_drewN|apply below_drew1|refine below_set ?_ GE679.out)|exact HB.out)⟩⟩
                     ·rw [if_neg c62] at H
                      exact absurd H (by simp)
                    ·rw [if_neg c61] at H
                     exact absurd H (by simp)
                   ·rw [if_neg c59] at H
                    exact absurd H (by simp)
                  ·rw [if_neg c58] at H
                   exact absurd H (by simp)
                 ·rw [if_neg c57] at H
                  have c57b0 : (t667 == 0) = false:=beq_eq_false_iff_ne.mpr c57
                  have c57b1 : (t667 != 0) = true:=bne_iff_ne.mpr c57
                  have H':=Aside0.mk H
                  clear H
                  go_wp2
                  go_meet
                  case rel => exact ⟨_,(x5_12),H',⟨by have:=HK1.out;have:=HJ5.out;have:=HJ12.out;have:=HJ45.out;first|omega|exact Nat.le_refl _⟩,⟨by (with_reducible repeat (first|apply Kd.S_alloc|apply Kd.S_drewN|apply Kd.S_drew));exact Kd.S_mono HO_5.out (fun _ hk => trivial)⟩,⟨by repeat (first|(with_reducible first|exact HB.out|apply below_alloc|apply pw_below_drewN|apply below_drew1|refine below_set ?_ GE679.out)|exact HB.out)⟩⟩
             ·rw [if_neg c43] at H
              exact absurd H (by simp)
            ·rw [if_neg c42] at H
             have c42b0 : decide (x6_1 < (l1.length : Int)) = false:=decide_eq_false c42
             clear c42
             (first|rw [c42b0]|(simp only [i64_w,i32_w];rw [c42b0])|rw [c42b1]|skip)
             have H':=Aside0.mk H
             clear H
             go_wp2
             go_meet
             case rel => exact ⟨_,(x5_12),H',⟨by have:=HK1.out;have:=HJ5.out;have:=HJ12.out;first|omega|exact Nat.le_refl _⟩,⟨by (with_reducible repeat (first|apply Kd.S_alloc|apply Kd.S_drewN|apply Kd.S_drew));exact HO_5.out⟩,⟨by repeat (first|(with_reducible first|exact HB.out|apply below_alloc|apply pw_below_drewN|apply below_drew1)|exact HB.out)⟩⟩
           case rest =>
            clear HC41
            try clear c1
            try clear c2
            try clear p2
            try clear c3
            try clear q3
            try clear c4
            try clear c5
            try clear c6
            try clear p6
            try clear q6
            try clear hx6
            try clear c18
            try clear c18b0
            try clear c18b1
            try clear c19
            try clear c20
            try clear c20b0
            try clear c20b1
            try clear c22
            try clear c23
            try clear c23b0
            try clear c23b1
            try clear c24
            try clear c25
            try clear c26
            try clear c27
            try clear c28
            try clear c28b0
            try clear c28b1
            try clear c30
            try clear c31
            try clear q36
            try clear c39
            try clear c39b0
            try clear c39b1
            try clear c42
            try clear c42b0
            try clear c42b1
            try clear c43
            try clear c43b0
            try clear c53
            try clear c53b0
            try clear c53b1
            try clear c54
            try clear c54b0
            try clear c54b1
            try clear c55
            try clear c55b0
            try clear c55b1
            try clear c56
            try clear c57
            try clear c57b0
            try clear c57b1
            try clear c58
            try clear c58b0
            try clear c59
            try clear c59b0
            try clear c61
            try clear c61b0
            try clear c61b1
            try clear c62
            try clear c62b0
            try clear c62b1
            try clear p64
            try clear hcz51_0
            try clear hcz51_1
            try clear hcz51_2
            try clear hcz51_3
            try clear hcz51_4
            try clear hfz51_0
            try clear hfz51_1
            try clear hfz51_2
            try clear hfz51_3
            try clear hfz51_4
            try clear hx651_0
            try clear hx651_1
            try clear hx651_2
            try clear hx651_3
            try clear hx651_4
            try clear hx662_0
            try clear hx662_1
            try clear hx662_2
            try clear hx662_3
            try clear hx662_4
            try clear hx663_0
            try clear hx663_1
            try clear hx663_2
            try clear hx663_3
            try clear hx663_4
            try clear hx665_0
            try clear hx670_0
            try clear hx680_0
            try clear p2
            try clear p6
            try clear p651
            try clear p662
            try clear p663
            try clear p665
            try clear p670
            try clear p680
            try clear q3
            try clear q36
            try clear q6
            try clear q651
            try clear q662
            try clear q663
            try clear q665
            try clear q670
            try clear q680
            obtain ⟨kq,x5_40,HA,HJ40,HO_5,HB⟩:=hcut
            cases kq with
            | zero => exact absurd HA.out (by simp [cofferlaw14_StackGrows.j4])
            | succ kj40 =>
             have H:=HA.out
             clear HA
             simp only [cofferlaw14_StackGrows.j4] at H
             replace H:=Option.bind_eq_some_iff.mp H
             obtain ⟨t685,A650,H⟩:=H
             replace H : (if t685 = true then ((cofferlaw14_told.f kj40 x5_40).bind fun t686 => (if t686 = true then (cofferlaw14_StackGrows.l0 kj40 l0 l1 x5_40 (wrap64 (x6_1 + 1))) else (none))) else (none)) = some r:=H
             have A65:=Aside0.mk A650
             clear A650
             by_cases c66 : t685 = true
             ·subst c66
              have H1 : ((cofferlaw14_told.f kj40 x5_40).bind fun t686 => (if t686 = true then (cofferlaw14_StackGrows.l0 kj40 l0 l1 x5_40 (wrap64 (x6_1 + 1))) else (none))) = some r:=by rw [if_pos rfl] at H;exact H
              clear H
              have H:=H1
              clear H1
              replace H:=Option.bind_eq_some_iff.mp H
              obtain ⟨t686,A670,H⟩:=H
              replace H : (if t686 = true then (cofferlaw14_StackGrows.l0 kj40 l0 l1 x5_40 (wrap64 (x6_1 + 1))) else (none)) = some r:=H
              have A67:=Aside0.mk A670
              clear A670
              by_cases c68 : t686 = true
              ·subst c68
               have H1 : (cofferlaw14_StackGrows.l0 kj40 l0 l1 x5_40 (wrap64 (x6_1 + 1))) = some r:=by rw [if_pos rfl] at H;exact H
               clear H
               have H:=H1
               clear H1
               have H':=Aside0.mk H
               clear H
               obtain ⟨Ao69,co69,eo69⟩:=Kd.S_slice HO_5.out
               subst eo69
               go_wp2_with (first|((with_reducible refine gate_callee (f:=20) rfl ?_);refine goesL_ (some 149) rfl rfl Try.func20 (by kernel_rfl) rfl #[.slice Ao69 x5_40.length co69] rfl (by (try simp only [List.map_toArray,List.map_cons,List.map_nil]);first|done|rfl|(simp only [List.length_drop,List.length_take];rfl)) ?_;(with_reducible refine (cofferlaw14_right.calls kj40 _ _ x5_40 true _ ?side1 ?side2 A65.out).mono ?_);(case side1 => repeat (first|exact (Kd.S_reads' HO_5.out).2.2|(with_reducible refine Kd.C_alloc ?_ _)|(with_reducible refine Kd.C_drewN ?_ _)|(with_reducible refine Kd.C_drew ?_)));(case side2 => exact (Kd.S_reads' HO_5.out).2.1);rintro e w' ⟨rfl,⟨nd,rfl⟩⟩;refine ⟨_,rfl,?_⟩)|(go_at_call 33;(with_reducible refine (cofferlaw14_told.calls kj40 _ _ x5_40 true _ ?side1 ?side2 A67.out).mono ?_);(case side1 => repeat (first|exact (Kd.S_reads' HO_5.out).2.2|(with_reducible refine Kd.C_alloc ?_ _)|(with_reducible refine Kd.C_drewN ?_ _)|(with_reducible refine Kd.C_drew ?_)));(case side2 => exact (Kd.S_reads' HO_5.out).2.1);rintro e w70 ⟨rfl,hb⟩;have n0_:=Aside0.mk (Kd.S_below (by (with_reducible repeat (first|apply Kd.S_alloc|apply Kd.S_drewN|apply Kd.S_drew));exact HO_5.out) hb);have n1_:=Aside0.mk (below_step (by repeat (first|(with_reducible first|exact HB.out|apply below_alloc|apply pw_below_drewN|apply below_drew1)|exact HB.out)) hb);clear HO_5;clear HB;have HO_5:=n0_;have HB:=n1_;clear n0_ n1_;(try clear hb);(try clear hb2);(try clear hk);(try clear hi)))
               go_roundg kj40
               case measure => have:=HK1.out;have:=HJ5.out;have:=HJ12.out;have:=HJ40.out;omega
               case rel => exact ⟨(x5_40),(wrap64 (x6_1 + 1)),(by first|rfl|(simp;done)|(simp [Go.Proofs.Ytmgiolijjheodaa.Z.bne_nil,Go.Proofs.Ytmgiolijjheodaa.Z.beq_nil];done)|(simp [*];done)),H',⟨by have:=HK1.out;have:=HJ5.out;have:=HJ12.out;have:=HJ40.out;omega⟩,⟨by (with_reducible repeat (first|apply Kd.S_alloc|apply Kd.S_drewN|apply Kd.S_drew));exact HO_5.out⟩,⟨by repeat (first|(with_reducible first|exact HB.out|apply below_alloc|apply pw_below_drewN|apply below_drew1)|exact HB.out)⟩⟩
              ·replace c68:=Bool.eq_false_iff.mpr c68
               subst c68
               have H1 : (none) = some r:=by rw [if_neg (show ¬ (false = true) by decide)] at H;exact H
               clear H
               have H:=H1
               clear H1
               exact absurd H (by simp)
             ·replace c66:=Bool.eq_false_iff.mpr c66
              subst c66
              have H1 : (none) = some r:=by rw [if_neg (show ¬ (false = true) by decide)] at H;exact H
              clear H
              have H:=H1
              clear H1
              exact absurd H (by simp)
        ·rw [if_neg c10] at H
         exact absurd H (by simp)
       ·rw [if_neg c9] at H
        exact absurd H (by simp)
      ·replace c8:=Bool.eq_false_iff.mpr c8
       subst c8
       have H1 : (some true) = some r:=by rw [if_neg (show ¬ (false = true) by decide)] at H;exact H
       clear H
       have H:=H1
       clear H1
       obtain rfl:=Option.some.inj H
       go_wp2
       go_ret
       exact ⟨by first|rfl|(simp [errW_none,errW_some] <;> rfl)|(simp [*,errW_none,errW_some] <;> rfl),by repeat (first|(with_reducible first|exact HB.out|apply below_alloc|apply pw_below_drewN|apply below_drew1)|exact HB.out)⟩
 ·replace c4:=Bool.eq_false_iff.mpr c4
  subst c4
  have H1 : (none) = some r:=by rw [if_neg (show ¬ (false = true) by decide)] at H;exact H
  clear H
  have H:=H1
  clear H1
  exact absurd H (by simp)

end Go.Proofs.Ytmgiolijjheodaa.X
