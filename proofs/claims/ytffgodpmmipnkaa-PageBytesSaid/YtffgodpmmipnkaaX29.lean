-- By a program of this session (wip/xprint.py over the kit's print).
import Derived.Test.YtffgodpmmipnkaaX0
import Derived.Test.YtffgodpmmipnkaaX27
import Derived.Test.YtffgodpmmipnkaaX28
namespace Go.Proofs.Ytffgodpmmipnkaa.X
open Go.RowKit Go.Proofs.YtffgodpmmipnkaaW.PrintWords Go.Proofs.YtffgodpmmipnkaaW.PrintLast Go.Proofs.YtffgodpmmipnkaaW.PrintMore
attribute [local go_sem] max2_int min2_int max_two min_two max_three min_three max_four min_four Go.Proofs.Ytffgodpmmipnkaa.Z.leq_string Go.Proofs.Ytffgodpmmipnkaa.Z.gtr_string Go.Proofs.Ytffgodpmmipnkaa.Z.geq_string   -- for this text's walks alone
set_option linter.unusedVariables false
set_option linter.unusedSimpArgs false

/-! ### cofferref10_Write: function 11 -/
mutual
def cofferref10_Write.j0 : Nat → Bool → Int → Int → List (S37) → Option (ByteArray × Int)
 | 0,_,_,_,_ => none
 | k + 1,x25,x160000,x160001,x160002 => if x25 = true then (some ((⟨#[]⟩ : ByteArray),1)) else (cofferref10_Write.l0 k 0 x160000 x160001 x160002)
def cofferref10_Write.l0 : Nat → Int → Int → Int → List (S37) → Option (ByteArray × Int)
 | 0,_,_,_,_ => none
 | k + 1,x4,x160000,x160001,x160002 => if x4 < (x160002.length : Int) then (if 0 ≤ x4 then (if (((rd_T37 x160002 x4).f0).size : Int) > 100 then (some ((⟨#[]⟩ : ByteArray),3)) else (if (((rd_T37 x160002 x4).f1).size : Int) > 150 then (some ((⟨#[]⟩ : ByteArray),3)) else (cofferref10_Write.l0 k (wrap64 (x4 + 1)) x160000 x160001 x160002))) else (none)) else ((cofferref10_Size.f k x160002).bind fun t162 => (if t162 > 507 then (some ((⟨#[]⟩ : ByteArray),3)) else ((cofferref10_Sorted.f k x160002).bind fun t163 => (if t163 = true then (cofferref10_Write.l1 k (x160002.length : Int) (([(x160000) % 256,(x160001 / 256) % 256,(x160001) % 256,((x160002.length : Int) / 256) % 256,((x160002.length : Int)) % 256] : List Int)) 0 x160000 x160001 x160002) else (some ((⟨#[]⟩ : ByteArray),4))))))
def cofferref10_Write.l1 : Nat → Int → List Int → Int → Int → Int → List (S37) → Option (ByteArray × Int)
 | 0,_,_,_,_,_,_ => none
 | k + 1,x5,x6,x7,x160000,x160001,x160002 => if x7 < x5 then (if 0 ≤ x7 then (if x7 < (x160002.length : Int) then ((some (([((((rd_T37 x160002 x7).f0).size : Int)) % 256,((((rd_T37 x160002 x7).f1).size : Int)) % 256] : List Int) : List Int)).bind fun y169 => (if x6.length + y169.length < 140737488355328 then ((some (x6 ++ y169 : List Int)).bind fun y172 => (if y172.length + ((rd_T37 x160002 x7).f0).size < 140737488355328 then ((some (y172 ++ bytesOf ((rd_T37 x160002 x7).f0) : List Int)).bind fun y176 => (if y176.length + ((rd_T37 x160002 x7).f1).size < 140737488355328 then (cofferref10_Write.l1 k x5 (y176 ++ bytesOf ((rd_T37 x160002 x7).f1)) (wrap64 (x7 + 1)) x160000 x160001 x160002) else (none))) else (none))) else (none))) else (none)) else (none)) else (if 0 ≤ (wrap64 (512 - (x6.length : Int))) then (if (wrap64 (512 - (x6.length : Int)) : Int).toNat ≤ 281474976710656 then ((some (List.replicate (wrap64 (512 - (x6.length : Int)) : Int).toNat 0 : List Int)).bind fun y183 => (if (strOfNums x6).size + (strOfNums y183).size ≤ 9223372036854775807 then (some ((strOfNums x6) ++ (strOfNums y183),0)) else (none))) else (none)) else (none))
end
def cofferref10_Write.f (k : Nat) (a0_0 : Int) (a0_1 : Int) (l0_2 : List (S37)) : Option (ByteArray × Int):=if a0_0 < 0 then (cofferref10_Write.j0 k true a0_0 a0_1 l0_2) else (if a0_0 > 255 then (cofferref10_Write.j0 k true a0_0 a0_1 l0_2) else (if a0_1 < 0 then (cofferref10_Write.j0 k true a0_0 a0_1 l0_2) else (cofferref10_Write.j0 k (decide (a0_1 > 65535)) a0_0 a0_1 l0_2)))
theorem cofferref10_Write.mono_l : ∀ k,(∀ y0 y1 y2 y3,LeO (cofferref10_Write.j0 k y0 y1 y2 y3) (cofferref10_Write.j0 (k + 1) y0 y1 y2 y3)) ∧ (∀ y0 y1 y2 y3,LeO (cofferref10_Write.l0 k y0 y1 y2 y3) (cofferref10_Write.l0 (k + 1) y0 y1 y2 y3)) ∧ (∀ y0 y1 y2 y3 y4 y5,LeO (cofferref10_Write.l1 k y0 y1 y2 y3 y4 y5) (cofferref10_Write.l1 (k + 1) y0 y1 y2 y3 y4 y5))
 | 0 => ⟨fun _ _ _ _ r h => by simp [cofferref10_Write.j0] at h,fun _ _ _ _ r h => by simp [cofferref10_Write.l0] at h,fun _ _ _ _ _ _ r h => by simp [cofferref10_Write.l1] at h⟩
 | k + 1 => by
  obtain ⟨ih0,ih1,ih2⟩:=cofferref10_Write.mono_l k
  refine ⟨?_,?_,?_⟩
  ·intro y0 y1 y2 y3
   unfold cofferref10_Write.j0
   repeat' first
   | (with_reducible exact ih0 _ _ _ _)
   | (with_reducible exact ih1 _ _ _ _)
   | (with_reducible exact ih2 _ _ _ _ _ _)
   | (with_reducible exact cofferref10_Size.mono _ _)
   | (with_reducible exact cofferref10_Sorted.mono _ _)
   | (with_reducible exact LeO.refl _)
   | (with_reducible exact LeO.none _)
   | (with_reducible refine LeO.ite ?_ ?_)
   | (with_reducible refine LeO.bind ?_ (fun _ => ?_))
   | exact ih0 _ _ _ _
   | exact ih1 _ _ _ _
   | exact ih2 _ _ _ _ _ _
   | exact cofferref10_Size.mono _ _
   | exact cofferref10_Sorted.mono _ _
   | exact LeO.none _
   | refine LeO.ite ?_ ?_
   | refine LeO.bind ?_ (fun _ => ?_)
  ·intro y0 y1 y2 y3
   unfold cofferref10_Write.l0
   repeat' first
   | (with_reducible exact ih0 _ _ _ _)
   | (with_reducible exact ih1 _ _ _ _)
   | (with_reducible exact ih2 _ _ _ _ _ _)
   | (with_reducible exact cofferref10_Size.mono _ _)
   | (with_reducible exact cofferref10_Sorted.mono _ _)
   | (with_reducible exact LeO.refl _)
   | (with_reducible exact LeO.none _)
   | (with_reducible refine LeO.ite ?_ ?_)
   | (with_reducible refine LeO.bind ?_ (fun _ => ?_))
   | exact ih0 _ _ _ _
   | exact ih1 _ _ _ _
   | exact ih2 _ _ _ _ _ _
   | exact cofferref10_Size.mono _ _
   | exact cofferref10_Sorted.mono _ _
   | exact LeO.none _
   | refine LeO.ite ?_ ?_
   | refine LeO.bind ?_ (fun _ => ?_)
  ·intro y0 y1 y2 y3 y4 y5
   unfold cofferref10_Write.l1
   repeat' first
   | (with_reducible exact ih0 _ _ _ _)
   | (with_reducible exact ih1 _ _ _ _)
   | (with_reducible exact ih2 _ _ _ _ _ _)
   | (with_reducible exact cofferref10_Size.mono _ _)
   | (with_reducible exact cofferref10_Sorted.mono _ _)
   | (with_reducible exact LeO.refl _)
   | (with_reducible exact LeO.none _)
   | (with_reducible refine LeO.ite ?_ ?_)
   | (with_reducible refine LeO.bind ?_ (fun _ => ?_))
   | exact ih0 _ _ _ _
   | exact ih1 _ _ _ _
   | exact ih2 _ _ _ _ _ _
   | exact cofferref10_Size.mono _ _
   | exact cofferref10_Sorted.mono _ _
   | exact LeO.none _
   | refine LeO.ite ?_ ?_
   | refine LeO.bind ?_ (fun _ => ?_)
theorem cofferref10_Write.mono : ∀ a0 a1 a2 k,LeO (cofferref10_Write.f k a0 a1 a2) (cofferref10_Write.f (k + 1) a0 a1 a2):=by
 intro a0 a1 a2 k
 obtain ⟨ih0,ih1,ih2⟩:=cofferref10_Write.mono_l k
 unfold cofferref10_Write.f
 repeat' first
  | (with_reducible exact ih0 _ _ _ _)
  | (with_reducible exact ih1 _ _ _ _)
  | (with_reducible exact ih2 _ _ _ _ _ _)
  | (with_reducible exact cofferref10_Size.mono _ _)
  | (with_reducible exact cofferref10_Sorted.mono _ _)
  | (with_reducible exact LeO.refl _)
  | (with_reducible exact LeO.none _)
  | (with_reducible refine LeO.ite ?_ ?_)
  | (with_reducible refine LeO.bind ?_ (fun _ => ?_))
  | exact ih0 _ _ _ _
  | exact ih1 _ _ _ _
  | exact ih2 _ _ _ _ _ _
  | exact cofferref10_Size.mono _ _
  | exact cofferref10_Sorted.mono _ _
  | exact LeO.none _
  | refine LeO.ite ?_ ?_
  | refine LeO.bind ?_ (fun _ => ?_)
def cofferref10_Write.T17 : Bool × List (List Nat × List Nat):=(true,[([],[]),([],[]),([1],[1]),([],[]),([2,3],[2,3]),([4],[4]),([5],[5]),([6],[6]),([7],[7]),([],[]),([9],[9]),([],[]),([10,11],[10,11]),([12],[12]),([13],[13]),([14],[14]),([15],[15]),([8,16],[8,16]),([0,17],[0,17]),([18,18,0,1,2,3,4,5,6,7,8,9,10,11,12,13,14,15,16,17,18],[0,18])])
def cofferref10_Write.B17 : List Nat:=[0,0,2,0,14,30,62,126,254,0,512,0,3584,7680,15872,32256,65024,131070,262143,524287]
theorem cofferref10_Write.tab17 : rtab .any (opsOf Try.f11 17) = cofferref10_Write.T17:=by kernel_rfl
theorem cofferref10_Write.bits17 : waitsOk cofferref10_Write.T17.2 cofferref10_Write.B17 = true:=by kernel_rfl
def cofferref10_Write.T20 : Bool × List (List Nat × List Nat):=(true,[([],[]),([0],[0]),([],[]),([2],[2]),([3],[3]),([4,4],[4]),([5],[5]),([1,6],[1,6]),([7,0,1,2,3,4,5,6,7],[7]),([8,0,1,2,3,4,5,6,7,8],[])])
def cofferref10_Write.B20 : List Nat:=[0,1,0,4,12,28,60,127,255,511]
theorem cofferref10_Write.tab20 : rtab .any (opsOf Try.f11 20) = cofferref10_Write.T20:=by kernel_rfl
theorem cofferref10_Write.bits20 : waitsOk cofferref10_Write.T20.2 cofferref10_Write.B20 = true:=by kernel_rfl
set_option maxHeartbeats 8000000 in
set_option maxRecDepth 100000 in
theorem cofferref10_Write.calls (k : Nat) (a0_0 : Int) (a0_1 : Int) (A0_2 : Option Addr) (c0_2 : Nat) (l0_2 : List (S37)) (r1 : ByteArray) (r2 : Int) (w : World) (hr0_2 : Kd.C k37 w A0_2 l0_2.length l0_2) (hc0_2 : l0_2.length ≤ c0_2) (h : cofferref10_Write.f k a0_0 a0_1 l0_2 = some (r1,r2)) :
 Calls Try.prog 11 #[.agg #[.int .i64 a0_0,.int .i64 a0_1,.slice A0_2 l0_2.length c0_2]] w fun e w' => e = .returned (.tuple #[.string r1,.int .i64 r2]) ∧ Below w.heap.size w w':=by
 have hu30:=Try.underlying30
 have HR0_2:=Aside0.mk hr0_2
 have HC0_2:=Aside0.mk hc0_2
 clear hr0_2 hc0_2
 have HB:=Aside0.mk (Below.refl w.heap.size w)
 have H : (if a0_0 < 0 then (cofferref10_Write.j0 k true a0_0 a0_1 l0_2) else (if a0_0 > 255 then (cofferref10_Write.j0 k true a0_0 a0_1 l0_2) else (if a0_1 < 0 then (cofferref10_Write.j0 k true a0_0 a0_1 l0_2) else (cofferref10_Write.j0 k (decide (a0_1 > 65535)) a0_0 a0_1 l0_2)))) = some (r1,r2):=h
 clear h
 have HC2:=Aside0.mk H
 clear H
 go_enter Try.func11,Try.ntmps11
 go_upto_region 1 with (first|((with_reducible refine gate_dst (N:=1) rfl ?_);(try (refine gate_guard (by rfl) ?_;dsimp only));refine box_event ?hg (N:=1) ?hd (cs:=#[.int .i64 a0_0,.int .i64 a0_1,.slice A0_2 l0_2.length c0_2]) (t:=30) ?hr ?_;(case hd => rfl);(case hg => rfl);(case hr => first|(go_simp;done)|(go_simp;rfl));intro gb159 hg w3 hbox hb;have n0_:=Aside0.mk (below_step (by repeat (first|(with_reducible first|exact HB.out|apply below_alloc|apply pw_below_drewN|apply below_drew1)|exact HB.out)) hb);have n1_:=Aside0.mk (hbox);have n2_:=Aside0.mk ((by rw [hg];exact (below_size (by repeat (first|(with_reducible first|exact HB.out|apply below_alloc|apply pw_below_drewN|apply below_drew1)|exact HB.out))) : w.heap.size ≤ gb159));have n3_:=Aside0.mk ((by rw [hg];exact (below_size (by repeat (first|(with_reducible first|exact HB.out|apply below_alloc|apply pw_below_drewN|apply below_drew1)|exact HB.out))) : w.heap.size ≤ gb159));clear HB;have HB:=n0_;have BK159:=n1_;have GW159:=n2_;have GE159:=n3_;clear n0_ n1_ n2_ n3_;clear hb hbox hg))
 (try simp only [Act.put,List.setIfInBounds_toArray,List.set_cons_zero,List.set_cons_succ])
 go_cut [25] (fun v25 wc => ∃ (kq : Nat) (x25_1 : Bool),v25 = .bool x25_1 ∧ Aside0 (cofferref10_Write.j0 kq x25_1 a0_0 a0_1 l0_2 = some (r1,r2)) ∧ Aside0 (kq ≤ k) ∧ Aside0 (wc.heap[gb159]? = some (.cells #[.int .i64 a0_0,.int .i64 a0_1,(.slice A0_2 l0_2.length c0_2)] 30 (0,0))) ∧ Aside0 (Below w.heap.size w wc))
 case first =>
  have H:=HC2.out
  clear HC2
  by_cases c4 : a0_0 < 0
  ·rw [if_pos c4] at H
   have c4b0 : decide (a0_0 < 0) = true:=decide_eq_true c4
   clear c4
   (first|rw [c4b0]|(simp only [i64_w,i32_w];rw [c4b0])|rw [c4b1]|skip)
   have H':=Aside0.mk H
   clear H
   have hcz5_0 : w3.cell? ⟨gb159,0,none⟩ = some (.int .i64 a0_0):=(blk_cell BK159.out 0).trans rfl
   have hcz5_1 : w3.cell? ⟨gb159,1,none⟩ = some (.int .i64 a0_1):=(blk_cell BK159.out 1).trans rfl
   have hcz5_2 : w3.cell? ⟨gb159,2,none⟩ = some (.slice A0_2 l0_2.length c0_2):=(blk_cell BK159.out 2).trans rfl
   have hfz5_0:=blk_frozen BK159.out 0
   have hfz5_1:=blk_frozen BK159.out 1
   have hfz5_2:=blk_frozen BK159.out 2
   go_wp2
   go_meet
   case rel => exact ⟨_,(true),(by first|rfl|(simp;done)|(simp [Go.Proofs.Ytffgodpmmipnkaa.Z.bne_nil,Go.Proofs.Ytffgodpmmipnkaa.Z.beq_nil];done)|(simp [*];done)),H',⟨by first|omega|exact Nat.le_refl _⟩,⟨by (with_reducible repeat (first|refine blk_drewN ?_ _|refine blk_drew ?_|refine blk_alloc ?_ _));exact BK159.out⟩,⟨by repeat (first|(with_reducible first|exact HB.out|apply below_alloc|apply pw_below_drewN|apply below_drew1|refine below_set ?_ GE159.out)|exact HB.out)⟩⟩
  ·rw [if_neg c4] at H
   have c4b0 : decide (a0_0 < 0) = false:=decide_eq_false c4
   clear c4
   (first|rw [c4b0]|(simp only [i64_w,i32_w];rw [c4b0])|rw [c4b1]|skip)
   by_cases c6 : a0_0 > 255
   ·rw [if_pos c6] at H
    have c6b0 : decide (255 < a0_0) = true:=decide_eq_true c6
    clear c6
    have H':=Aside0.mk H
    clear H
    have hcz7_0 : w3.cell? ⟨gb159,0,none⟩ = some (.int .i64 a0_0):=(blk_cell BK159.out 0).trans rfl
    have hcz7_1 : w3.cell? ⟨gb159,1,none⟩ = some (.int .i64 a0_1):=(blk_cell BK159.out 1).trans rfl
    have hcz7_2 : w3.cell? ⟨gb159,2,none⟩ = some (.slice A0_2 l0_2.length c0_2):=(blk_cell BK159.out 2).trans rfl
    have hfz7_0:=blk_frozen BK159.out 0
    have hfz7_1:=blk_frozen BK159.out 1
    have hfz7_2:=blk_frozen BK159.out 2
    go_wp2
    go_meet
    case rel => exact ⟨_,(true),(by first|rfl|(simp;done)|(simp [Go.Proofs.Ytffgodpmmipnkaa.Z.bne_nil,Go.Proofs.Ytffgodpmmipnkaa.Z.beq_nil];done)|(simp [*];done)),H',⟨by first|omega|exact Nat.le_refl _⟩,⟨by (with_reducible repeat (first|refine blk_drewN ?_ _|refine blk_drew ?_|refine blk_alloc ?_ _));exact BK159.out⟩,⟨by repeat (first|(with_reducible first|exact HB.out|apply below_alloc|apply pw_below_drewN|apply below_drew1|refine below_set ?_ GE159.out)|exact HB.out)⟩⟩
   ·rw [if_neg c6] at H
    have c6b0 : decide (255 < a0_0) = false:=decide_eq_false c6
    clear c6
    by_cases c8 : a0_1 < 0
    ·rw [if_pos c8] at H
     have c8b0 : decide (a0_1 < 0) = true:=decide_eq_true c8
     clear c8
     have H':=Aside0.mk H
     clear H
     have hcz9_0 : w3.cell? ⟨gb159,0,none⟩ = some (.int .i64 a0_0):=(blk_cell BK159.out 0).trans rfl
     have hcz9_1 : w3.cell? ⟨gb159,1,none⟩ = some (.int .i64 a0_1):=(blk_cell BK159.out 1).trans rfl
     have hcz9_2 : w3.cell? ⟨gb159,2,none⟩ = some (.slice A0_2 l0_2.length c0_2):=(blk_cell BK159.out 2).trans rfl
     have hfz9_0:=blk_frozen BK159.out 0
     have hfz9_1:=blk_frozen BK159.out 1
     have hfz9_2:=blk_frozen BK159.out 2
     go_wp2
     go_meet
     case rel => exact ⟨_,(true),(by first|rfl|(simp;done)|(simp [Go.Proofs.Ytffgodpmmipnkaa.Z.bne_nil,Go.Proofs.Ytffgodpmmipnkaa.Z.beq_nil];done)|(simp [*];done)),H',⟨by first|omega|exact Nat.le_refl _⟩,⟨by (with_reducible repeat (first|refine blk_drewN ?_ _|refine blk_drew ?_|refine blk_alloc ?_ _));exact BK159.out⟩,⟨by repeat (first|(with_reducible first|exact HB.out|apply below_alloc|apply pw_below_drewN|apply below_drew1|refine below_set ?_ GE159.out)|exact HB.out)⟩⟩
    ·rw [if_neg c8] at H
     have c8b0 : decide (a0_1 < 0) = false:=decide_eq_false c8
     clear c8
     have H':=Aside0.mk H
     clear H
     have hcz10_0 : w3.cell? ⟨gb159,0,none⟩ = some (.int .i64 a0_0):=(blk_cell BK159.out 0).trans rfl
     have hcz10_1 : w3.cell? ⟨gb159,1,none⟩ = some (.int .i64 a0_1):=(blk_cell BK159.out 1).trans rfl
     have hcz10_2 : w3.cell? ⟨gb159,2,none⟩ = some (.slice A0_2 l0_2.length c0_2):=(blk_cell BK159.out 2).trans rfl
     have hfz10_0:=blk_frozen BK159.out 0
     have hfz10_1:=blk_frozen BK159.out 1
     have hfz10_2:=blk_frozen BK159.out 2
     go_wp2
     go_meet
     case rel => exact ⟨_,(decide (a0_1 > 65535)),(by first|rfl|(simp;done)|(simp [Go.Proofs.Ytffgodpmmipnkaa.Z.bne_nil,Go.Proofs.Ytffgodpmmipnkaa.Z.beq_nil];done)|(simp [*];done)),H',⟨by first|omega|exact Nat.le_refl _⟩,⟨by (with_reducible repeat (first|refine blk_drewN ?_ _|refine blk_drew ?_|refine blk_alloc ?_ _));exact BK159.out⟩,⟨by repeat (first|(with_reducible first|exact HB.out|apply below_alloc|apply pw_below_drewN|apply below_drew1|refine below_set ?_ GE159.out)|exact HB.out)⟩⟩
 case rest =>
  clear HC2
  try clear c1
  try clear p2
  try clear c4
  try clear c4b0
  try clear c4b1
  try clear c6
  try clear c6b0
  try clear c8
  try clear c8b0
  try clear hcz10_0
  try clear hcz10_1
  try clear hcz10_2
  try clear hcz5_0
  try clear hcz5_1
  try clear hcz5_2
  try clear hcz7_0
  try clear hcz7_1
  try clear hcz7_2
  try clear hcz9_0
  try clear hcz9_1
  try clear hcz9_2
  try clear hfz10_0
  try clear hfz10_1
  try clear hfz10_2
  try clear hfz5_0
  try clear hfz5_1
  try clear hfz5_2
  try clear hfz7_0
  try clear hfz7_1
  try clear hfz7_2
  try clear hfz9_0
  try clear hfz9_1
  try clear hfz9_2
  obtain ⟨kq,x25_1,rfl,HA,HJ1,BK159,HB⟩:=hcut
  cases kq with
  | zero => exact absurd HA.out (by simp [cofferref10_Write.j0])
  | succ kj1 =>
   have H:=HA.out
   clear HA
   simp only [cofferref10_Write.j0] at H
   by_cases c11 : x25_1 = true
   ·subst c11
    have H1 : (some ((⟨#[]⟩ : ByteArray),1)) = some (r1,r2):=by rw [if_pos rfl] at H;exact H
    clear H
    have H:=H1
    clear H1
    simp only [Option.some.injEq,Prod.mk.injEq] at H
    obtain ⟨rfl,rfl⟩:=H
    go_wp2
    go_ret2
    exact ⟨by first|rfl|(simp [errW_none,errW_some] <;> rfl)|(simp [*,errW_none,errW_some] <;> rfl),by repeat (first|(with_reducible first|exact HB.out|apply below_alloc|apply pw_below_drewN|apply below_drew1|refine below_set ?_ GE159.out)|exact HB.out)⟩
   ·replace c11:=Bool.eq_false_iff.mpr c11
    subst c11
    have H1 : (cofferref10_Write.l0 kj1 0 a0_0 a0_1 l0_2) = some (r1,r2):=by rw [if_neg (show ¬ (false = true) by decide)] at H;exact H
    clear H
    have H:=H1
    clear H1
    have H':=Aside0.mk H
    clear H
    go_wp2
    go_loopg [4] kj1 (fun kq v4 w' => ∃ (x4_2 : Int),v4 = .int .i64 x4_2 ∧ Aside0 (cofferref10_Write.l0 kq x4_2 a0_0 a0_1 l0_2 = some (r1,r2)) ∧ Aside0 (kq ≤ kj1) ∧ Aside0 (w'.heap[gb159]? = some (.cells #[.int .i64 a0_0,.int .i64 a0_1,(.slice A0_2 l0_2.length c0_2)] 30 (0,0))) ∧ Aside0 (Below w.heap.size w w'))
    case atStart => exact ⟨(0),(by first|rfl|(simp;done)|(simp [Go.Proofs.Ytffgodpmmipnkaa.Z.bne_nil,Go.Proofs.Ytffgodpmmipnkaa.Z.beq_nil];done)|(simp [*];done)),H',⟨Nat.le_refl _⟩,⟨by (with_reducible repeat (first|refine blk_drewN ?_ _|refine blk_drew ?_|refine blk_alloc ?_ _));exact BK159.out⟩,⟨by repeat (first|(with_reducible first|exact HB.out|apply below_alloc|apply pw_below_drewN|apply below_drew1|refine below_set ?_ GE159.out)|exact HB.out)⟩⟩
    case round =>
     clear H'
     try clear c1
     try clear p2
     try clear c4
     try clear c4b0
     try clear c4b1
     try clear c6
     try clear c6b0
     try clear c8
     try clear c8b0
     try clear c11
     try clear hcz10_0
     try clear hcz10_1
     try clear hcz10_2
     try clear hcz5_0
     try clear hcz5_1
     try clear hcz5_2
     try clear hcz7_0
     try clear hcz7_1
     try clear hcz7_2
     try clear hcz9_0
     try clear hcz9_1
     try clear hcz9_2
     try clear hfz10_0
     try clear hfz10_1
     try clear hfz10_2
     try clear hfz5_0
     try clear hfz5_1
     try clear hfz5_2
     try clear hfz7_0
     try clear hfz7_1
     try clear hfz7_2
     try clear hfz9_0
     try clear hfz9_1
     try clear hfz9_2
     try clear p2
     obtain ⟨x4_2,rfl,HA,HK2,BK159,HB⟩:=hrel
     cases gk with
     | zero => exact absurd HA.out (by simp [cofferref10_Write.l0])
     | succ k2 =>
      have H:=HA.out
      clear HA
      simp only [cofferref10_Write.l0] at H
      by_cases c12 : x4_2 < (l0_2.length : Int)
      ·rw [if_pos c12] at H
       have c12b0 : decide (x4_2 < (l0_2.length : Int)) = true:=decide_eq_true c12
       clear c12
       by_cases c13 : 0 ≤ x4_2
       ·rw [if_pos c13] at H
        have c13b0 : decide (0 ≤ x4_2) = true:=decide_eq_true c13
        clear c13
        by_cases c14 : (((rd_T37 l0_2 x4_2).f0).size : Int) > 100
        ·rw [if_pos c14] at H
         have c14b0 : decide (100 < (((rd_T37 l0_2 x4_2).f0).size : Int)) = true:=decide_eq_true c14
         have c14b1 : decide (100 < ((rd_T37 l0_2 x4_2).f0).size) = true:=decide_eq_true (by omega)
         clear c14
         simp only [Option.some.injEq,Prod.mk.injEq] at H
         obtain ⟨rfl,rfl⟩:=H
         have hcz15_0 : wr.cell? ⟨gb159,0,none⟩ = some (.int .i64 a0_0):=(blk_cell BK159.out 0).trans rfl
         have hcz15_1 : wr.cell? ⟨gb159,1,none⟩ = some (.int .i64 a0_1):=(blk_cell BK159.out 1).trans rfl
         have hcz15_2 : wr.cell? ⟨gb159,2,none⟩ = some (.slice A0_2 l0_2.length c0_2):=(blk_cell BK159.out 2).trans rfl
         have hfz15_0:=blk_frozen BK159.out 0
         have hfz15_1:=blk_frozen BK159.out 1
         have hfz15_2:=blk_frozen BK159.out 2
         have p160 : 0 ≤ (x4_2 : Int):=of_decide_eq_true (by first|(with_reducible assumption)|assumption)
         have q160 : x4_2 < (l0_2.length : Int):=of_decide_eq_true (by first|(with_reducible assumption)|assumption)
         obtain ⟨ad160,e160,hx160_0,hx160_1⟩:=at_T37 HR0_2.out x4_2 p160 q160
         cases e160
         replace hx160_0:=(HB.out.cell (World.block_lt_of_cell? w _ hx160_0)).trans hx160_0
         replace hx160_1:=(HB.out.cell (World.block_lt_of_cell? w _ hx160_1)).trans hx160_1
         replace p160:=eq_true p160
         replace q160:=eq_true q160
         go_wp2
         go_ret2
         exact ⟨by first|rfl|(simp [errW_none,errW_some] <;> rfl)|(simp [*,errW_none,errW_some] <;> rfl),by repeat (first|(with_reducible first|exact HB.out|apply below_alloc|apply pw_below_drewN|apply below_drew1|refine below_set ?_ GE159.out)|exact HB.out)⟩
        ·rw [if_neg c14] at H
         have c14b0 : decide (100 < (((rd_T37 l0_2 x4_2).f0).size : Int)) = false:=decide_eq_false c14
         have c14b1 : decide (100 < ((rd_T37 l0_2 x4_2).f0).size) = false:=decide_eq_false (by omega)
         clear c14
         by_cases c16 : (((rd_T37 l0_2 x4_2).f1).size : Int) > 150
         ·rw [if_pos c16] at H
          have c16b0 : decide (150 < (((rd_T37 l0_2 x4_2).f1).size : Int)) = true:=decide_eq_true c16
          have c16b1 : decide (150 < ((rd_T37 l0_2 x4_2).f1).size) = true:=decide_eq_true (by omega)
          clear c16
          simp only [Option.some.injEq,Prod.mk.injEq] at H
          obtain ⟨rfl,rfl⟩:=H
          have hcz17_0 : wr.cell? ⟨gb159,0,none⟩ = some (.int .i64 a0_0):=(blk_cell BK159.out 0).trans rfl
          have hcz17_1 : wr.cell? ⟨gb159,1,none⟩ = some (.int .i64 a0_1):=(blk_cell BK159.out 1).trans rfl
          have hcz17_2 : wr.cell? ⟨gb159,2,none⟩ = some (.slice A0_2 l0_2.length c0_2):=(blk_cell BK159.out 2).trans rfl
          have hfz17_0:=blk_frozen BK159.out 0
          have hfz17_1:=blk_frozen BK159.out 1
          have hfz17_2:=blk_frozen BK159.out 2
          have p160 : 0 ≤ (x4_2 : Int):=of_decide_eq_true (by first|(with_reducible assumption)|assumption)
          have q160 : x4_2 < (l0_2.length : Int):=of_decide_eq_true (by first|(with_reducible assumption)|assumption)
          obtain ⟨ad160,e160,hx160_0,hx160_1⟩:=at_T37 HR0_2.out x4_2 p160 q160
          cases e160
          replace hx160_0:=(HB.out.cell (World.block_lt_of_cell? w _ hx160_0)).trans hx160_0
          replace hx160_1:=(HB.out.cell (World.block_lt_of_cell? w _ hx160_1)).trans hx160_1
          replace p160:=eq_true p160
          replace q160:=eq_true q160
          have p161 : 0 ≤ (x4_2 : Int):=of_decide_eq_true (by first|(with_reducible assumption)|assumption)
          have q161 : x4_2 < (l0_2.length : Int):=of_decide_eq_true (by first|(with_reducible assumption)|assumption)
          obtain ⟨ad161,e161,hx161_0,hx161_1⟩:=at_T37 HR0_2.out x4_2 p161 q161
          obtain rfl : ad160 = ad161:=(by injection e161)
          replace hx161_0:=(HB.out.cell (World.block_lt_of_cell? w _ hx161_0)).trans hx161_0
          replace hx161_1:=(HB.out.cell (World.block_lt_of_cell? w _ hx161_1)).trans hx161_1
          replace p161:=eq_true p161
          replace q161:=eq_true q161
          go_wp2
          go_ret2
          exact ⟨by first|rfl|(simp [errW_none,errW_some] <;> rfl)|(simp [*,errW_none,errW_some] <;> rfl),by repeat (first|(with_reducible first|exact HB.out|apply below_alloc|apply pw_below_drewN|apply below_drew1|refine below_set ?_ GE159.out)|exact HB.out)⟩
         ·rw [if_neg c16] at H
          have c16b0 : decide (150 < (((rd_T37 l0_2 x4_2).f1).size : Int)) = false:=decide_eq_false c16
          have c16b1 : decide (150 < ((rd_T37 l0_2 x4_2).f1).size) = false:=decide_eq_false (by omega)
          clear c16
          have H':=Aside0.mk H
          clear H
          have hcz18_0 : wr.cell? ⟨gb159,0,none⟩ = some (.int .i64 a0_0):=(blk_cell BK159.out 0).trans rfl
          have hcz18_1 : wr.cell? ⟨gb159,1,none⟩ = some (.int .i64 a0_1):=(blk_cell BK159.out 1).trans rfl
          have hcz18_2 : wr.cell? ⟨gb159,2,none⟩ = some (.slice A0_2 l0_2.length c0_2):=(blk_cell BK159.out 2).trans rfl
          have hfz18_0:=blk_frozen BK159.out 0
          have hfz18_1:=blk_frozen BK159.out 1
          have hfz18_2:=blk_frozen BK159.out 2
          have p160 : 0 ≤ (x4_2 : Int):=of_decide_eq_true (by first|(with_reducible assumption)|assumption)
          have q160 : x4_2 < (l0_2.length : Int):=of_decide_eq_true (by first|(with_reducible assumption)|assumption)
          obtain ⟨ad160,e160,hx160_0,hx160_1⟩:=at_T37 HR0_2.out x4_2 p160 q160
          cases e160
          replace hx160_0:=(HB.out.cell (World.block_lt_of_cell? w _ hx160_0)).trans hx160_0
          replace hx160_1:=(HB.out.cell (World.block_lt_of_cell? w _ hx160_1)).trans hx160_1
          replace p160:=eq_true p160
          replace q160:=eq_true q160
          have p161 : 0 ≤ (x4_2 : Int):=of_decide_eq_true (by first|(with_reducible assumption)|assumption)
          have q161 : x4_2 < (l0_2.length : Int):=of_decide_eq_true (by first|(with_reducible assumption)|assumption)
          obtain ⟨ad161,e161,hx161_0,hx161_1⟩:=at_T37 HR0_2.out x4_2 p161 q161
          obtain rfl : ad160 = ad161:=(by injection e161)
          replace hx161_0:=(HB.out.cell (World.block_lt_of_cell? w _ hx161_0)).trans hx161_0
          replace hx161_1:=(HB.out.cell (World.block_lt_of_cell? w _ hx161_1)).trans hx161_1
          replace p161:=eq_true p161
          replace q161:=eq_true q161
          go_wp2
          go_roundg k2
          case measure => have:=HJ1.out;have:=HK2.out;omega
          case rel => exact ⟨(wrap64 (x4_2 + 1)),(by first|rfl|(simp;done)|(simp [Go.Proofs.Ytffgodpmmipnkaa.Z.bne_nil,Go.Proofs.Ytffgodpmmipnkaa.Z.beq_nil];done)|(simp [*];done)),H',⟨by have:=HJ1.out;have:=HK2.out;omega⟩,⟨by (with_reducible repeat (first|refine blk_drewN ?_ _|refine blk_drew ?_|refine blk_alloc ?_ _));exact BK159.out⟩,⟨by repeat (first|(with_reducible first|exact HB.out|apply below_alloc|apply pw_below_drewN|apply below_drew1|refine below_set ?_ GE159.out)|exact HB.out)⟩⟩
       ·rw [if_neg c13] at H
        exact absurd H (by simp)
      ·rw [if_neg c12] at H
       have c12b0 : decide (x4_2 < (l0_2.length : Int)) = false:=decide_eq_false c12
       clear c12
       replace H:=Option.bind_eq_some_iff.mp H
       obtain ⟨t162,A190,H⟩:=H
       replace H : (if t162 > 507 then (some ((⟨#[]⟩ : ByteArray),3)) else ((cofferref10_Sorted.f k2 l0_2).bind fun t163 => (if t163 = true then (cofferref10_Write.l1 k2 (l0_2.length : Int) (([(a0_0) % 256,(a0_1 / 256) % 256,(a0_1) % 256,((l0_2.length : Int) / 256) % 256,((l0_2.length : Int)) % 256] : List Int)) 0 a0_0 a0_1 l0_2) else (some ((⟨#[]⟩ : ByteArray),4))))) = some (r1,r2):=H
       have A19:=Aside0.mk A190
       clear A190
       by_cases c20 : t162 > 507
       ·rw [if_pos c20] at H
        have c20b0 : decide (507 < t162) = true:=decide_eq_true c20
        clear c20
        simp only [Option.some.injEq,Prod.mk.injEq] at H
        obtain ⟨rfl,rfl⟩:=H
        have hcz21_0 : wr.cell? ⟨gb159,0,none⟩ = some (.int .i64 a0_0):=(blk_cell BK159.out 0).trans rfl
        have hcz21_1 : wr.cell? ⟨gb159,1,none⟩ = some (.int .i64 a0_1):=(blk_cell BK159.out 1).trans rfl
        have hcz21_2 : wr.cell? ⟨gb159,2,none⟩ = some (.slice A0_2 l0_2.length c0_2):=(blk_cell BK159.out 2).trans rfl
        have hfz21_0:=blk_frozen BK159.out 0
        have hfz21_1:=blk_frozen BK159.out 1
        have hfz21_2:=blk_frozen BK159.out 2
        go_wp2_with (first|((with_reducible refine gate_callee (f:=17) rfl ?_);refine goesL_ (some 53) rfl rfl Try.func17 (by kernel_rfl) rfl #[.slice A0_2 l0_2.length c0_2] rfl (by (try simp only [List.map_toArray,List.map_cons,List.map_nil]);first|done|rfl|(simp only [List.length_drop,List.length_take];rfl)) ?_;(with_reducible refine (cofferref10_Size.calls k2 _ _ l0_2 t162 _ ?side1 ?side2 A19.out).mono ?_);(case side1 => repeat (first|exact (Kd.C_below HR0_2.out HB.out)|(with_reducible refine Kd.C_alloc ?_ _)|(with_reducible refine Kd.C_drewN ?_ _)|(with_reducible refine Kd.C_drew ?_)));(case side2 => exact HC0_2.out);rintro e w' ⟨rfl,⟨nd,rfl⟩⟩;refine ⟨_,rfl,?_⟩))
        go_ret2
        exact ⟨by first|rfl|(simp [errW_none,errW_some] <;> rfl)|(simp [*,errW_none,errW_some] <;> rfl),by repeat (first|(with_reducible first|exact HB.out|apply below_alloc|apply pw_below_drewN|apply below_drew1|refine below_set ?_ GE159.out)|exact HB.out)⟩
       ·rw [if_neg c20] at H
        have c20b0 : decide (507 < t162) = false:=decide_eq_false c20
        clear c20
        replace H:=Option.bind_eq_some_iff.mp H
        obtain ⟨t163,A220,H⟩:=H
        replace H : (if t163 = true then (cofferref10_Write.l1 k2 (l0_2.length : Int) (([(a0_0) % 256,(a0_1 / 256) % 256,(a0_1) % 256,((l0_2.length : Int) / 256) % 256,((l0_2.length : Int)) % 256] : List Int)) 0 a0_0 a0_1 l0_2) else (some ((⟨#[]⟩ : ByteArray),4))) = some (r1,r2):=H
        have A22:=Aside0.mk A220
        clear A220
        by_cases c23 : t163 = true
        ·subst c23
         have H1 : (cofferref10_Write.l1 k2 (l0_2.length : Int) (([(a0_0) % 256,(a0_1 / 256) % 256,(a0_1) % 256,((l0_2.length : Int) / 256) % 256,((l0_2.length : Int)) % 256] : List Int)) 0 a0_0 a0_1 l0_2) = some (r1,r2):=by rw [if_pos rfl] at H;exact H
         clear H
         have H:=H1
         clear H1
         obtain ⟨y164,hy164⟩ : ∃ y_ : List Int,y_ = (([(a0_0) % 256,(a0_1 / 256) % 256,(a0_1) % 256,((l0_2.length : Int) / 256) % 256,((l0_2.length : Int)) % 256] : List Int)):=⟨_,rfl⟩
         replace H : (cofferref10_Write.l1 k2 (l0_2.length : Int) y164 0 a0_0 a0_1 l0_2) = some (r1,r2):=by first|(rw [hy164];with_reducible exact H)|(have H2_:=(Option.bind_some _ _).symm.trans H;rw [hy164];with_reducible exact H2_)|(have H2_:=(Option.bind_some _ _).symm.trans H;with_reducible exact H2_)|with_reducible exact H|(rw [hy164];exact H)|exact H
         have Ny164:=Aside0.mk hy164
         clear hy164
         have H':=Aside0.mk H
         clear H
         have hcz24_0 : wr.cell? ⟨gb159,0,none⟩ = some (.int .i64 a0_0):=(blk_cell BK159.out 0).trans rfl
         have hcz24_1 : wr.cell? ⟨gb159,1,none⟩ = some (.int .i64 a0_1):=(blk_cell BK159.out 1).trans rfl
         have hcz24_2 : wr.cell? ⟨gb159,2,none⟩ = some (.slice A0_2 l0_2.length c0_2):=(blk_cell BK159.out 2).trans rfl
         have hfz24_0:=blk_frozen BK159.out 0
         have hfz24_1:=blk_frozen BK159.out 1
         have hfz24_2:=blk_frozen BK159.out 2
         go_wp2_with (first|((with_reducible refine gate_callee (f:=17) rfl ?_);refine goesL_ (some 53) rfl rfl Try.func17 (by kernel_rfl) rfl #[.slice A0_2 l0_2.length c0_2] rfl (by (try simp only [List.map_toArray,List.map_cons,List.map_nil]);first|done|rfl|(simp only [List.length_drop,List.length_take];rfl)) ?_;(with_reducible refine (cofferref10_Size.calls k2 _ _ l0_2 t162 _ ?side1 ?side2 A19.out).mono ?_);(case side1 => repeat (first|exact (Kd.C_below HR0_2.out HB.out)|(with_reducible refine Kd.C_alloc ?_ _)|(with_reducible refine Kd.C_drewN ?_ _)|(with_reducible refine Kd.C_drew ?_)));(case side2 => exact HC0_2.out);rintro e w' ⟨rfl,⟨nd,rfl⟩⟩;refine ⟨_,rfl,?_⟩)|((with_reducible refine gate_callee (f:=37) rfl ?_);refine goesL_ (some 57) rfl rfl Try.func37 (by kernel_rfl) rfl #[.slice A0_2 l0_2.length c0_2] rfl (by (try simp only [List.map_toArray,List.map_cons,List.map_nil]);first|done|rfl|(simp only [List.length_drop,List.length_take];rfl)) ?_;(with_reducible refine (cofferref10_Sorted.calls k2 _ _ l0_2 true _ ?side1 ?side2 A22.out).mono ?_);(case side1 => repeat (first|exact (Kd.C_below HR0_2.out (by repeat (first|(with_reducible first|exact HB.out|apply below_alloc|apply pw_below_drewN|apply below_drew1|refine below_set ?_ GE159.out)|exact HB.out)))|(with_reducible refine Kd.C_alloc ?_ _)|(with_reducible refine Kd.C_drewN ?_ _)|(with_reducible refine Kd.C_drew ?_)));(case side2 => exact HC0_2.out);rintro e w' ⟨rfl,⟨nd,rfl⟩⟩;refine ⟨_,rfl,?_⟩)|((with_reducible refine gate_dst (N:=77) rfl ?_);(try (refine gate_guard (by rfl) ?_;dsimp only));refine Kd.R_lit (Kd.int .u8) _ 5 ?hg (N:=77) ?hd (xs:=([(a0_0) % 256,(a0_1 / 256) % 256,(a0_1) % 256,((l0_2.length : Int) / 256) % 256,((l0_2.length : Int)) % 256] : List Int)) (inner:=[.int .u8 ((a0_0) % 256),.int .u8 ((a0_1 / 256) % 256),.int .u8 ((a0_1) % 256),.int .u8 (((l0_2.length : Int) / 256) % 256),.int .u8 (((l0_2.length : Int)) % 256)]) (ok:=fun _ => True) (okp:=fun _ => True) ?hr ?hp (fun _ hk => hk) trivial (Below.refl _ _) (Nat.le_refl _) (by simp) ?_;(case hd => rfl);(case hg => rfl);(case hr => first|(go_simp;done)|(go_simp;rfl));(case hp => exact (Reps.one (show Kd.M (Kd.int .u8) _ _ _ ((a0_0) % 256) [.int .u8 ((a0_0) % 256)] from rfl) (Reps.one (show Kd.M (Kd.int .u8) _ _ _ ((a0_1 / 256) % 256) [.int .u8 ((a0_1 / 256) % 256)] from rfl) (Reps.one (show Kd.M (Kd.int .u8) _ _ _ ((a0_1) % 256) [.int .u8 ((a0_1) % 256)] from rfl) (Reps.one (show Kd.M (Kd.int .u8) _ _ _ (((l0_2.length : Int) / 256) % 256) [.int .u8 (((l0_2.length : Int) / 256) % 256)] from rfl) (Reps.one (show Kd.M (Kd.int .u8) _ _ _ (((l0_2.length : Int)) % 256) [.int .u8 (((l0_2.length : Int)) % 256)] from rfl) (Reps.none _ _)))))));intro v165 w25 ho26 hb hg_ hnew_;clear hg_ hnew_;(first|rw [← Ny164.out] at ho26|(simp only [Int.reduceToNat] at ho26;rw [← Ny164.out] at ho26));have n0_:=Aside0.mk (Kd.R_lower ho26 (below_size (by repeat (first|(with_reducible first|exact HB.out|apply below_alloc|apply pw_below_drewN|apply below_drew1|refine below_set ?_ GE159.out)|exact HB.out))));have n1_:=Aside0.mk (blk_below (g:=gb159) (o:=.cells #[.int .i64 a0_0,.int .i64 a0_1,.slice A0_2 l0_2.length c0_2] 30 (0,0)) (by (with_reducible repeat (first|refine blk_drewN ?_ _|refine blk_drew ?_|refine blk_alloc ?_ _));exact BK159.out) hb);have n2_:=Aside0.mk (below_step (by repeat (first|(with_reducible first|exact HB.out|apply below_alloc|apply pw_below_drewN|apply below_drew1|refine below_set ?_ GE159.out)|exact HB.out)) hb);clear BK159;clear HB;have HO166:=n0_;have BK159:=n1_;have HB:=n2_;clear n0_ n1_ n2_;clear hb ho26))
         go_loopg [6,7] k2 (fun kq v6 v7 w' => ∃ (x6_3 : List Int) (x7_3 : Int),v7 = .int .i64 x7_3 ∧ Aside0 (cofferref10_Write.l1 kq (l0_2.length : Int) x6_3 x7_3 a0_0 a0_1 l0_2 = some (r1,r2)) ∧ Aside0 (kq ≤ k2) ∧ Aside0 (Kd.R (Kd.int .u8) 5 w' w.heap.size (fun _ => True) v6 x6_3) ∧ Aside0 (w'.heap[gb159]? = some (.cells #[.int .i64 a0_0,.int .i64 a0_1,(.slice A0_2 l0_2.length c0_2)] 30 (0,0))) ∧ Aside0 (Below w.heap.size w w'))
         case atStart => exact ⟨(y164),(0),(by first|rfl|(simp;done)|(simp [Go.Proofs.Ytffgodpmmipnkaa.Z.bne_nil,Go.Proofs.Ytffgodpmmipnkaa.Z.beq_nil];done)|(simp [*];done)),H',⟨Nat.le_refl _⟩,⟨by (with_reducible repeat (first|apply Kd.R_alloc|apply Kd.R_drewN|apply Kd.R_drew));exact HO166.out⟩,⟨by (with_reducible repeat (first|refine blk_drewN ?_ _|refine blk_drew ?_|refine blk_alloc ?_ _));exact BK159.out⟩,⟨by repeat (first|(with_reducible first|exact HB.out|apply below_alloc|apply pw_below_drewN|apply below_drew1|refine below_set ?_ GE159.out)|exact HB.out)⟩⟩
         case round =>
          clear H'
          try clear c1
          try clear p1
          try clear q1
          try clear hx1
          try clear c2
          try clear p2
          try clear c3
          try clear c4
          try clear c4b0
          try clear c4b1
          try clear c6
          try clear c6b0
          try clear p6
          try clear c8
          try clear c8b0
          try clear c11
          try clear c12
          try clear c12b0
          try clear c13
          try clear c13b0
          try clear c14
          try clear c14b0
          try clear c14b1
          try clear c16
          try clear c16b0
          try clear c16b1
          try clear p16
          try clear q16
          try clear hx16
          try clear c17
          try clear c20
          try clear c20b0
          try clear c23
          try clear hcz10_0
          try clear hcz10_1
          try clear hcz10_2
          try clear hcz15_0
          try clear hcz15_1
          try clear hcz15_2
          try clear hcz17_0
          try clear hcz17_1
          try clear hcz17_2
          try clear hcz18_0
          try clear hcz18_1
          try clear hcz18_2
          try clear hcz21_0
          try clear hcz21_1
          try clear hcz21_2
          try clear hcz24_0
          try clear hcz24_1
          try clear hcz24_2
          try clear hcz5_0
          try clear hcz5_1
          try clear hcz5_2
          try clear hcz7_0
          try clear hcz7_1
          try clear hcz7_2
          try clear hcz9_0
          try clear hcz9_1
          try clear hcz9_2
          try clear hfz10_0
          try clear hfz10_1
          try clear hfz10_2
          try clear hfz15_0
          try clear hfz15_1
          try clear hfz15_2
          try clear hfz17_0
          try clear hfz17_1
          try clear hfz17_2
          try clear hfz18_0
          try clear hfz18_1
          try clear hfz18_2
          try clear hfz21_0
          try clear hfz21_1
          try clear hfz21_2
          try clear hfz24_0
          try clear hfz24_1
          try clear hfz24_2
          try clear hfz5_0
          try clear hfz5_1
          try clear hfz5_2
          try clear hfz7_0
          try clear hfz7_1
          try clear hfz7_2
          try clear hfz9_0
          try clear hfz9_1
          try clear hfz9_2
          try clear hx160_0
          try clear hx160_1
          try clear hx161_0
          try clear hx161_1
          try clear p160
          try clear p161
          try clear p2
          try clear q160
          try clear q161
          obtain ⟨x6_3,x7_3,rfl,HA,HK3,HO_6,BK159,HB⟩:=hrel
          cases gk with
          | zero => exact absurd HA.out (by simp [cofferref10_Write.l1])
          | succ k3 =>
           have H:=HA.out
           clear HA
           simp only [cofferref10_Write.l1] at H
           by_cases c27 : x7_3 < (l0_2.length : Int)
           ·rw [if_pos c27] at H
            have c27b0 : decide (x7_3 < (l0_2.length : Int)) = true:=decide_eq_true c27
            clear c27
            by_cases c28 : 0 ≤ x7_3
            ·rw [if_pos c28] at H
             have c28b0 : decide (0 ≤ x7_3) = true:=decide_eq_true c28
             clear c28
             by_cases c29 : x7_3 < (l0_2.length : Int)
             ·rw [if_pos c29] at H
              have c29b0 : decide (x7_3 < (l0_2.length : Int)) = true:=decide_eq_true c29
              clear c29
              obtain ⟨y169,hy169⟩ : ∃ y_ : List Int,y_ = (([((((rd_T37 l0_2 x7_3).f0).size : Int)) % 256,((((rd_T37 l0_2 x7_3).f1).size : Int)) % 256] : List Int)):=⟨_,rfl⟩
              replace H : (if x6_3.length + y169.length < 140737488355328 then ((some (x6_3 ++ y169 : List Int)).bind fun y172 => (if y172.length + ((rd_T37 l0_2 x7_3).f0).size < 140737488355328 then ((some (y172 ++ bytesOf ((rd_T37 l0_2 x7_3).f0) : List Int)).bind fun y176 => (if y176.length + ((rd_T37 l0_2 x7_3).f1).size < 140737488355328 then (cofferref10_Write.l1 k3 (l0_2.length : Int) (y176 ++ bytesOf ((rd_T37 l0_2 x7_3).f1)) (wrap64 (x7_3 + 1)) a0_0 a0_1 l0_2) else (none))) else (none))) else (none)) = some (r1,r2):=by first|(rw [hy169];with_reducible exact H)|(have H2_:=(Option.bind_some _ _).symm.trans H;rw [hy169];with_reducible exact H2_)|(have H2_:=(Option.bind_some _ _).symm.trans H;with_reducible exact H2_)|with_reducible exact H|(rw [hy169];exact H)|exact H
              have Ny169:=Aside0.mk hy169
              clear hy169
              by_cases c30 : x6_3.length + y169.length < 140737488355328
              ·rw [if_pos c30] at H
               have LMc30:=Aside0.mk c30
               clear c30
               obtain ⟨y172,hy172⟩ : ∃ y_ : List Int,y_ = (x6_3 ++ y169):=⟨_,rfl⟩
               replace H : (if y172.length + ((rd_T37 l0_2 x7_3).f0).size < 140737488355328 then ((some (y172 ++ bytesOf ((rd_T37 l0_2 x7_3).f0) : List Int)).bind fun y176 => (if y176.length + ((rd_T37 l0_2 x7_3).f1).size < 140737488355328 then (cofferref10_Write.l1 k3 (l0_2.length : Int) (y176 ++ bytesOf ((rd_T37 l0_2 x7_3).f1)) (wrap64 (x7_3 + 1)) a0_0 a0_1 l0_2) else (none))) else (none)) = some (r1,r2):=by first|(rw [hy172];with_reducible exact H)|(have H2_:=(Option.bind_some _ _).symm.trans H;rw [hy172];with_reducible exact H2_)|(have H2_:=(Option.bind_some _ _).symm.trans H;with_reducible exact H2_)|with_reducible exact H|(rw [hy172];exact H)|exact H
               have Ny172:=Aside0.mk hy172
               clear hy172
               by_cases c31 : y172.length + ((rd_T37 l0_2 x7_3).f0).size < 140737488355328
               ·rw [if_pos c31] at H
                have LMc31:=Aside0.mk c31
                clear c31
                obtain ⟨y176,hy176⟩ : ∃ y_ : List Int,y_ = (y172 ++ bytesOf ((rd_T37 l0_2 x7_3).f0)):=⟨_,rfl⟩
                replace H : (if y176.length + ((rd_T37 l0_2 x7_3).f1).size < 140737488355328 then (cofferref10_Write.l1 k3 (l0_2.length : Int) (y176 ++ bytesOf ((rd_T37 l0_2 x7_3).f1)) (wrap64 (x7_3 + 1)) a0_0 a0_1 l0_2) else (none)) = some (r1,r2):=by first|(rw [hy176];with_reducible exact H)|(have H2_:=(Option.bind_some _ _).symm.trans H;rw [hy176];with_reducible exact H2_)|(have H2_:=(Option.bind_some _ _).symm.trans H;with_reducible exact H2_)|with_reducible exact H|(rw [hy176];exact H)|exact H
                have Ny176:=Aside0.mk hy176
                clear hy176
                by_cases c32 : y176.length + ((rd_T37 l0_2 x7_3).f1).size < 140737488355328
                ·rw [if_pos c32] at H
                 have LMc32:=Aside0.mk c32
                 clear c32
                 obtain ⟨y180,hy180⟩ : ∃ y_ : List Int,y_ = (y176 ++ bytesOf ((rd_T37 l0_2 x7_3).f1)):=⟨_,rfl⟩
                 replace H : (cofferref10_Write.l1 k3 (l0_2.length : Int) y180 (wrap64 (x7_3 + 1)) a0_0 a0_1 l0_2) = some (r1,r2):=by first|(rw [hy180];with_reducible exact H)|(have H2_:=(Option.bind_some _ _).symm.trans H;rw [hy180];with_reducible exact H2_)|(have H2_:=(Option.bind_some _ _).symm.trans H;with_reducible exact H2_)|with_reducible exact H|(rw [hy180];exact H)|exact H
                 have Ny180:=Aside0.mk hy180
                 clear hy180
                 have H':=Aside0.mk H
                 clear H
                 try go_wp2
                 have n0_:=Aside0.mk (Kd.R_drew HO_6.out)
                 have n1_:=Aside0.mk (blk_drew BK159.out)
                 have n2_:=Aside0.mk (below_drew1 HB.out)
                 clear HO_6
                 clear BK159
                 clear HB
                 have HO_6:=n0_
                 have BK159:=n1_
                 have HB:=n2_
                 clear n0_ n1_ n2_
                 have p167 : 0 ≤ (x7_3 : Int):=of_decide_eq_true (by first|(with_reducible assumption)|assumption)
                 have q167 : x7_3 < (l0_2.length : Int):=of_decide_eq_true (by first|(with_reducible assumption)|assumption)
                 obtain ⟨ad167,e167,hx167_0,hx167_1⟩:=at_T37 HR0_2.out x7_3 p167 q167
                 have hw167_1:=hx167_1
                 have hw167_0:=hx167_0
                 cases e167
                 replace hx167_0:=(HB.out.cell (World.block_lt_of_cell? w _ hx167_0)).trans hx167_0
                 replace hx167_1:=(HB.out.cell (World.block_lt_of_cell? w _ hx167_1)).trans hx167_1
                 replace p167:=eq_true p167
                 replace q167:=eq_true q167
                 have p168 : 0 ≤ (x7_3 : Int):=of_decide_eq_true (by first|(with_reducible assumption)|assumption)
                 have q168 : x7_3 < (l0_2.length : Int):=of_decide_eq_true (by first|(with_reducible assumption)|assumption)
                 obtain ⟨ad168,e168,hx168_0,hx168_1⟩:=at_T37 HR0_2.out x7_3 p168 q168
                 have hw168_1:=hx168_1
                 have hw168_0:=hx168_0
                 obtain rfl : ad167 = ad168:=(by injection e168)
                 replace hx168_0:=(HB.out.cell (World.block_lt_of_cell? w _ hx168_0)).trans hx168_0
                 replace hx168_1:=(HB.out.cell (World.block_lt_of_cell? w _ hx168_1)).trans hx168_1
                 replace p168:=eq_true p168
                 replace q168:=eq_true q168
                 refine start_ (n:=20) (S:=fun w' => w'.cell? ⟨gb159,0,none⟩ = some (.int .i64 a0_0) ∧ w'.cell? ⟨gb159,1,none⟩ = some (.int .i64 a0_1) ∧ w'.cell? ⟨gb159,2,none⟩ = some (.slice (some ad167) l0_2.length c0_2) ∧ w'.cell? (ad167.add ((x7_3).toNat * 2)) = some (.string ((rd_T37 l0_2 x7_3).f0)) ∧ w'.cell? ⟨(ad167.add ((x7_3).toNat * 2)).block,(ad167.add ((x7_3).toNat * 2)).off + 1,none⟩ = some (.string ((rd_T37 l0_2 x7_3).f1)) ∧ w'.cell? (ad167.add ((x7_3).toNat * 2)) = some (.string ((rd_T37 l0_2 x7_3).f0)) ∧ w'.cell? ⟨(ad167.add ((x7_3).toNat * 2)).block,(ad167.add ((x7_3).toNat * 2)).off + 1,none⟩ = some (.string ((rd_T37 l0_2 x7_3).f1))) (ds:=[]) #[false,false,false,false,false,false,false,false,false,false,false,false,false,false,false,false,false,false,false,false] (by kernel_rfl) rfl rfl ⟨(blk_cell BK159.out 0).trans rfl,(blk_cell BK159.out 1).trans rfl,(blk_cell BK159.out 2).trans rfl,((HB.out.cell (World.block_lt_of_cell? w _ hw167_0)).trans hw167_0),((HB.out.cell (World.block_lt_of_cell? w _ hw167_1)).trans hw167_1),((HB.out.cell (World.block_lt_of_cell? w _ hw168_0)).trans hw168_0),((HB.out.cell (World.block_lt_of_cell? w _ hw168_1)).trans hw168_1)⟩ (fun hHeld => ?_);refine with_tabW cofferref10_Write.tab17 cofferref10_Write.bits17 (fun HT_ HW_ => ?_)
                 generalize wr.drew = w33 at HO_6 BK159 HB hx167_0 hx167_1 hx168_0 hx168_1 hHeld ⊢
                 refine pure_ (i:=0) (N:=some 83) (v:=?_) (a':=?_) #[true,false,false,false,false,false,false,false,false,false,false,false,false,false,false,false,false,false,false,false] rfl rfl (any_of HT_.out (by kernel_rfl)) (fun _ _ _ h => h) (Or.inl ⟨by rfl,?_⟩) ?_ ?_
                 rotate_left
                 ·intro w'
                  go_simp
                  with_reducible rfl
                 rotate_left
                 ·simp only [Act.put,List.setIfInBounds_toArray,List.set_cons_zero,List.set_cons_succ,i64_w,i32_w]
                  rfl
                 refine pure_ (i:=1) (N:=some 84) (v:=?_) (a':=?_) #[true,true,false,false,false,false,false,false,false,false,false,false,false,false,false,false,false,false,false,false] rfl rfl (any_of HT_.out (by kernel_rfl)) (fun _ _ _ h => h) (Or.inl ⟨by rfl,?_⟩) ?_ ?_
                 rotate_left
                 ·intro w'
                  go_simp
                  with_reducible rfl
                 rotate_left
                 ·simp only [Act.put,List.setIfInBounds_toArray,List.set_cons_zero,List.set_cons_succ,i64_w,i32_w]
                  rfl
                 refine pure_ (i:=3) (N:=some 86) (v:=?_) (a':=?_) #[true,true,false,true,false,false,false,false,false,false,false,false,false,false,false,false,false,false,false,false] rfl rfl (any_of HT_.out (by kernel_rfl)) (fun _ _ _ h => h) (Or.inl ⟨by rfl,?_⟩) ?_ ?_
                 rotate_left
                 ·intro w'
                  go_simp
                  with_reducible rfl
                 rotate_left
                 ·simp only [Act.put,List.setIfInBounds_toArray,List.set_cons_zero,List.set_cons_succ,i64_w,i32_w]
                  rfl
                 refine pure_ (i:=9) (N:=some 92) (v:=?_) (a':=?_) #[true,true,false,true,false,false,false,false,false,true,false,false,false,false,false,false,false,false,false,false] rfl rfl (any_of HT_.out (by kernel_rfl)) (fun _ _ _ h => h) (Or.inl ⟨by rfl,?_⟩) ?_ ?_
                 rotate_left
                 ·intro w'
                  go_simp
                  with_reducible rfl
                 rotate_left
                 ·simp only [Act.put,List.setIfInBounds_toArray,List.set_cons_zero,List.set_cons_succ,i64_w,i32_w]
                  rfl
                 refine pure_ (i:=11) (N:=some 94) (v:=?_) (a':=?_) #[true,true,false,true,false,false,false,false,false,true,false,true,false,false,false,false,false,false,false,false] rfl rfl (any_of HT_.out (by kernel_rfl)) (fun _ _ _ h => h) (Or.inl ⟨by rfl,?_⟩) ?_ ?_
                 rotate_left
                 ·intro w'
                  go_simp
                  with_reducible rfl
                 rotate_left
                 ·simp only [Act.put,List.setIfInBounds_toArray,List.set_cons_zero,List.set_cons_succ,i64_w,i32_w]
                  rfl
                 refine take_ (i:=2) (N:=some 85) (v:=?_) (a':=?_) #[true,true,true,true,false,false,false,false,false,true,false,true,false,false,false,false,false,false,false,false] rfl rfl (take_ofW HT_.out HW_.out (by kernel_rfl)) (fun _ _ _ h => h) (Or.inl ⟨by rfl,?_⟩) hHeld ?_ ?_
                 rotate_left
                 ·rintro w' ⟨s0,s1,s2,s3,s4,s5,s6⟩
                  go_simp
                  with_reducible rfl
                 rotate_left
                 ·simp only [Act.put,List.setIfInBounds_toArray,List.set_cons_zero,List.set_cons_succ,i64_w,i32_w]
                  rfl
                 refine pure_ (i:=4) (N:=some 87) (v:=?_) (a':=?_) #[true,true,true,true,true,false,false,false,false,true,false,true,false,false,false,false,false,false,false,false] rfl rfl (any_of HT_.out (by kernel_rfl)) (fun _ _ _ h => h) (Or.inl ⟨by rfl,?_⟩) ?_ ?_
                 rotate_left
                 ·intro w'
                  go_simp
                  with_reducible rfl
                 rotate_left
                 ·simp only [Act.put,List.setIfInBounds_toArray,List.set_cons_zero,List.set_cons_succ,i64_w,i32_w]
                  rfl
                 refine pure_ (i:=5) (N:=some 88) (v:=?_) (a':=?_) #[true,true,true,true,true,true,false,false,false,true,false,true,false,false,false,false,false,false,false,false] rfl rfl (any_of HT_.out (by kernel_rfl)) (fun _ _ _ h => h) (Or.inl ⟨by rfl,?_⟩) ?_ ?_
                 rotate_left
                 ·intro w'
                  go_simp
                  with_reducible rfl
                 rotate_left
                 ·simp only [Act.put,List.setIfInBounds_toArray,List.set_cons_zero,List.set_cons_succ,i64_w,i32_w]
                  rfl
                 refine take_ (i:=6) (N:=some 89) (v:=?_) (a':=?_) #[true,true,true,true,true,true,true,false,false,true,false,true,false,false,false,false,false,false,false,false] rfl rfl (take_ofW HT_.out HW_.out (by kernel_rfl)) (fun _ _ _ h => h) (Or.inl ⟨by rfl,?_⟩) hHeld ?_ ?_
                 rotate_left
                 ·rintro w' ⟨s0,s1,s2,s3,s4,s5,s6⟩
                  go_simp
                  with_reducible rfl
                 rotate_left
                 ·simp only [Act.put,List.setIfInBounds_toArray,List.set_cons_zero,List.set_cons_succ,i64_w,i32_w]
                  rfl
                 refine pure_ (i:=7) (N:=some 90) (v:=?_) (a':=?_) #[true,true,true,true,true,true,true,true,false,true,false,true,false,false,false,false,false,false,false,false] rfl rfl (any_of HT_.out (by kernel_rfl)) (fun _ _ _ h => h) (Or.inl ⟨by rfl,?_⟩) ?_ ?_
                 rotate_left
                 ·intro w'
                  go_simp
                  with_reducible rfl
                 rotate_left
                 ·simp only [Act.put,List.setIfInBounds_toArray,List.set_cons_zero,List.set_cons_succ,i64_w,i32_w]
                  rfl
                 refine pure_ (i:=8) (N:=some 91) (v:=?_) (a':=?_) #[true,true,true,true,true,true,true,true,true,true,false,true,false,false,false,false,false,false,false,false] rfl rfl (any_of HT_.out (by kernel_rfl)) (fun _ _ _ h => h) (Or.inl ⟨by rfl,?_⟩) ?_ ?_
                 rotate_left
                 ·intro w'
                  go_simp
                  with_reducible rfl
                 rotate_left
                 ·simp only [Act.put,List.setIfInBounds_toArray,List.set_cons_zero,List.set_cons_succ,i64_w,i32_w]
                  rfl
                 refine take_ (i:=10) (N:=some 93) (v:=?_) (a':=?_) #[true,true,true,true,true,true,true,true,true,true,true,true,false,false,false,false,false,false,false,false] rfl rfl (take_ofW HT_.out HW_.out (by kernel_rfl)) (fun _ _ _ h => h) (Or.inl ⟨by rfl,?_⟩) hHeld ?_ ?_
                 rotate_left
                 ·rintro w' ⟨s0,s1,s2,s3,s4,s5,s6⟩
                  go_simp
                  with_reducible rfl
                 rotate_left
                 ·simp only [Act.put,List.setIfInBounds_toArray,List.set_cons_zero,List.set_cons_succ,i64_w,i32_w]
                  rfl
                 refine pure_ (i:=12) (N:=some 95) (v:=?_) (a':=?_) #[true,true,true,true,true,true,true,true,true,true,true,true,true,false,false,false,false,false,false,false] rfl rfl (any_of HT_.out (by kernel_rfl)) (fun _ _ _ h => h) (Or.inl ⟨by rfl,?_⟩) ?_ ?_
                 rotate_left
                 ·intro w'
                  go_simp
                  with_reducible rfl
                 rotate_left
                 ·simp only [Act.put,List.setIfInBounds_toArray,List.set_cons_zero,List.set_cons_succ,i64_w,i32_w]
                  rfl
                 refine pure_ (i:=13) (N:=some 96) (v:=?_) (a':=?_) #[true,true,true,true,true,true,true,true,true,true,true,true,true,true,false,false,false,false,false,false] rfl rfl (any_of HT_.out (by kernel_rfl)) (fun _ _ _ h => h) (Or.inl ⟨by rfl,?_⟩) ?_ ?_
                 rotate_left
                 ·intro w'
                  go_simp
                  with_reducible rfl
                 rotate_left
                 ·simp only [Act.put,List.setIfInBounds_toArray,List.set_cons_zero,List.set_cons_succ,i64_w,i32_w]
                  rfl
                 refine take_ (i:=14) (N:=some 97) (v:=?_) (a':=?_) #[true,true,true,true,true,true,true,true,true,true,true,true,true,true,true,false,false,false,false,false] rfl rfl (take_ofW HT_.out HW_.out (by kernel_rfl)) (fun _ _ _ h => h) (Or.inl ⟨by rfl,?_⟩) hHeld ?_ ?_
                 rotate_left
                 ·rintro w' ⟨s0,s1,s2,s3,s4,s5,s6⟩
                  go_simp
                  with_reducible rfl
                 rotate_left
                 ·simp only [Act.put,List.setIfInBounds_toArray,List.set_cons_zero,List.set_cons_succ,i64_w,i32_w]
                  rfl
                 refine pure_ (i:=15) (N:=some 98) (v:=?_) (a':=?_) #[true,true,true,true,true,true,true,true,true,true,true,true,true,true,true,true,false,false,false,false] rfl rfl (any_of HT_.out (by kernel_rfl)) (fun _ _ _ h => h) (Or.inl ⟨by rfl,?_⟩) ?_ ?_
                 rotate_left
                 ·intro w'
                  go_simp
                  with_reducible rfl
                 rotate_left
                 ·simp only [Act.put,List.setIfInBounds_toArray,List.set_cons_zero,List.set_cons_succ,i64_w,i32_w]
                  rfl
                 refine pure_ (i:=16) (N:=some 99) (v:=?_) (a':=?_) #[true,true,true,true,true,true,true,true,true,true,true,true,true,true,true,true,true,false,false,false] rfl rfl (any_of HT_.out (by kernel_rfl)) (fun _ _ _ h => h) (Or.inl ⟨by rfl,?_⟩) ?_ ?_
                 rotate_left
                 ·intro w'
                  go_simp
                  with_reducible rfl
                 rotate_left
                 ·simp only [Act.put,List.setIfInBounds_toArray,List.set_cons_zero,List.set_cons_succ,i64_w,i32_w]
                  rfl
                 refine one_ (i:=17) (N:=some 100) #[true,true,true,true,true,true,true,true,true,true,true,true,true,true,true,true,true,true,false,false] rfl rfl (one_of HT_.out (by kernel_rfl)) (by decide) (fun K hK => ?_)
                 refine Kd.R_lit_step (Kd.int .u8) _ 5 ?hg (N:=100) ?hd (xs:=([((((rd_T37 l0_2 x7_3).f0).size : Int)) % 256,((((rd_T37 l0_2 x7_3).f1).size : Int)) % 256] : List Int)) (inner:=[.int .u8 (((((rd_T37 l0_2 x7_3).f0).size : Int)) % 256),.int .u8 (((((rd_T37 l0_2 x7_3).f1).size : Int)) % 256)]) (ok:=fun _ => True) (okp:=fun _ => True) ?hr ?hp (fun _ hk => hk) trivial (Below.refl _ _) (Nat.le_refl _) (by simp) ?_;(case hd => rfl);(case hg => rfl);(case hr => first|(go_simp;done)|(go_simp;rfl));(case hp => exact (Reps.one (show Kd.M (Kd.int .u8) _ _ _ (((((rd_T37 l0_2 x7_3).f0).size : Int)) % 256) [.int .u8 (((((rd_T37 l0_2 x7_3).f0).size : Int)) % 256)] from rfl) (Reps.one (show Kd.M (Kd.int .u8) _ _ _ (((((rd_T37 l0_2 x7_3).f1).size : Int)) % 256) [.int .u8 (((((rd_T37 l0_2 x7_3).f1).size : Int)) % 256)] from rfl) (Reps.none _ _))))
                 intro v170 w34 ho35 hb hg_ hnew_
                 clear hg_ hnew_
                 (first|rw [← Ny169.out] at ho35|(simp only [Int.reduceToNat] at ho35;rw [← Ny169.out] at ho35))
                 have n0_:=Aside0.mk (Kd.R_elder' (by (with_reducible repeat (first|apply Kd.R_alloc|apply Kd.R_drewN|apply Kd.R_drew));exact HO_6.out) (Kd.R_base ho35) hb)
                 have n1_:=Aside0.mk (Kd.R_lower (Kd.R_new' ho35 (Kd.R_lt (by (with_reducible repeat (first|apply Kd.R_alloc|apply Kd.R_drewN|apply Kd.R_drew));exact HO_6.out))) (below_size (by repeat (first|(with_reducible first|exact HB.out|apply below_alloc|apply pw_below_drewN|apply below_drew1|refine below_set ?_ GE159.out)|exact HB.out))))
                 have n2_:=Aside0.mk (blk_below (g:=gb159) (o:=.cells #[.int .i64 a0_0,.int .i64 a0_1,.slice (some ad167) l0_2.length c0_2] 30 (0,0)) (by (with_reducible repeat (first|refine blk_drewN ?_ _|refine blk_drew ?_|refine blk_alloc ?_ _));exact BK159.out) hb)
                 have n3_:=Aside0.mk (below_step (by repeat (first|(with_reducible first|exact HB.out|apply below_alloc|apply pw_below_drewN|apply below_drew1|refine below_set ?_ GE159.out)|exact HB.out)) hb)
                 clear HO_6
                 clear BK159
                 clear HB
                 have HO_6:=n0_
                 have HO171:=n1_
                 have BK159:=n2_
                 have HB:=n3_
                 clear n0_ n1_ n2_ n3_
                 clear hb ho35
                 obtain ⟨Ao37,co37,eo37⟩:=Kd.R_slice HO171.out
                 (first|subst eo37|(injection eo37 with f1_ f2_ f3_;have f4_:=f1_.symm;have f5_:=f3_.symm;clear f1_ f2_ f3_;subst f4_;subst f5_))
                 refine hK.out _ _ ⟨(blk_cell BK159.out 0).trans rfl,(blk_cell BK159.out 1).trans rfl,(blk_cell BK159.out 2).trans rfl,((HB.out.cell (World.block_lt_of_cell? w _ hw167_0)).trans hw167_0),((HB.out.cell (World.block_lt_of_cell? w _ hw167_1)).trans hw167_1),((HB.out.cell (World.block_lt_of_cell? w _ hw168_0)).trans hw168_0),((HB.out.cell (World.block_lt_of_cell? w _ hw168_1)).trans hw168_1)⟩ (fun hHeld => ?_)
                 clear hK K
                 refine norm_ (a':=?_) ?_ ?_
                 rotate_left
                 ·show Act.put _ (some 100) _ = _
                  simp only [Act.put,List.setIfInBounds_toArray,List.set_cons_zero,List.set_cons_succ,i64_w,i32_w]
                  rfl
                 refine one_ (i:=18) (N:=some 101) #[true,true,true,true,true,true,true,true,true,true,true,true,true,true,true,true,true,true,true,false] rfl rfl (one_of HT_.out (by kernel_rfl)) (by decide) (fun K hK => ?_)
                 refine Kd.R_append_rows_step (Kd.int .u8) (w0:=w) w.heap.size (by rfl) (.tmp 83) (.tmp 100) 63 5 (.int .u8 0) 1 rfl Try.underlying63 info5 rfl (by decide) (by omega) u6 x6_3 y169 _ _ _ (fun k_ => some k_ ≠ (.slice Ao37 y169.length co37 : Value).ownBlock) (fun _ => False) rfl rfl ?aO ?aR (fun _ _ h => h) (fun _ h => h.elim) ?aF ?aB ?aS ?aL ?_
                 (case aR => repeat (first|exact (Kd.R_reads' HO171.out).2.2|(with_reducible refine Kd.C_alloc ?_ _)|(with_reducible refine Kd.C_drewN ?_ _)|(with_reducible refine Kd.C_drew ?_)))
                 (case aB => exact (by repeat (first|(with_reducible first|exact HB.out|apply below_alloc|apply pw_below_drewN|apply below_drew1|refine below_set ?_ GE159.out)|exact HB.out)))
                 (case aF => exact (fun k_ hk => Kd.fresh' (Kd.R_lt (by (with_reducible repeat (first|apply Kd.R_alloc|apply Kd.R_drewN|apply Kd.R_drew));exact HO171.out)) k_ hk))
                 (case aO => exact (by (with_reducible repeat (first|apply Kd.R_alloc|apply Kd.R_drewN|apply Kd.R_drew));exact Kd.R_mono HO_6.out (fun _ hk => hk.2)))
                 (case aS => exact (below_size (by repeat (first|(with_reducible first|exact HB.out|apply below_alloc|apply pw_below_drewN|apply below_drew1|refine below_set ?_ GE159.out)|exact HB.out))))
                 (case aL => have:=LMc30.out;omega)
                 intro v173 w36 ho hb hg hat
                 rw [← Ny172.out] at ho
                 have n0_:=Aside0.mk (blk_grown (g:=gb159) (o:=.cells #[.int .i64 a0_0,.int .i64 a0_1,.slice (some ad167) l0_2.length c0_2] 30 (0,0)) (by (with_reducible repeat (first|refine blk_drewN ?_ _|refine blk_drew ?_|refine blk_alloc ?_ _));exact BK159.out) hg (Kd.R_ne HO_6.out BK159.out (by decide)))
                 have n1_:=Aside0.mk (Kd.R_after (ok:=(fun _ => True)) (by (with_reducible repeat (first|apply Kd.R_alloc|apply Kd.R_drewN|apply Kd.R_drew));exact HO171.out) hg hat)
                 have n2_:=Aside0.mk (hb)
                 have n3_:=Aside0.mk (ho)
                 clear BK159
                 clear HO171
                 clear HB
                 clear HO_6
                 have BK159:=n0_
                 have HO171:=n1_
                 have HB:=n2_
                 have HO174:=n3_
                 clear n0_ n1_ n2_ n3_
                 clear ho hb hg hat
                 refine hK.out _ _ ⟨(blk_cell BK159.out 0).trans rfl,(blk_cell BK159.out 1).trans rfl,(blk_cell BK159.out 2).trans rfl,((HB.out.cell (World.block_lt_of_cell? w _ hw167_0)).trans hw167_0),((HB.out.cell (World.block_lt_of_cell? w _ hw167_1)).trans hw167_1),((HB.out.cell (World.block_lt_of_cell? w _ hw168_0)).trans hw168_0),((HB.out.cell (World.block_lt_of_cell? w _ hw168_1)).trans hw168_1)⟩ (fun hHeld => ?_)
                 clear hK K
                 refine norm_ (a':=?_) ?_ ?_
                 rotate_left
                 ·show Act.put _ (some 101) _ = _
                  simp only [Act.put,List.setIfInBounds_toArray,List.set_cons_zero,List.set_cons_succ,i64_w,i32_w]
                  rfl
                 refine pure_ (i:=19) (N:=some 6) (v:=?_) (a':=?_) #[true,true,true,true,true,true,true,true,true,true,true,true,true,true,true,true,true,true,true,true] rfl rfl (any_of HT_.out (by kernel_rfl)) (fun _ _ _ h => h) (Or.inl ⟨by rfl,?_⟩) ?_ ?_
                 rotate_left
                 ·intro w'
                  go_simp
                  with_reducible rfl
                 rotate_left
                 ·simp only [Act.put,List.setIfInBounds_toArray,List.set_cons_zero,List.set_cons_succ,i64_w,i32_w]
                  rfl
                 refine done_ (done_of HT_.out (by kernel_rfl)) ?_
                 have hcz38_0 : w36.cell? ⟨gb159,0,none⟩ = some (.int .i64 a0_0):=(blk_cell BK159.out 0).trans rfl
                 have hcz38_1 : w36.cell? ⟨gb159,1,none⟩ = some (.int .i64 a0_1):=(blk_cell BK159.out 1).trans rfl
                 have hcz38_2 : w36.cell? ⟨gb159,2,none⟩ = some (.slice (some ad167) l0_2.length c0_2):=(blk_cell BK159.out 2).trans rfl
                 have hfz38_0:=blk_frozen BK159.out 0
                 have hfz38_1:=blk_frozen BK159.out 1
                 have hfz38_2:=blk_frozen BK159.out 2
                 have p175 : 0 ≤ (x7_3 : Int):=of_decide_eq_true (by first|(with_reducible assumption)|assumption)
                 have q175 : x7_3 < (l0_2.length : Int):=of_decide_eq_true (by first|(with_reducible assumption)|assumption)
                 obtain ⟨ad175,e175,hx175_0,hx175_1⟩:=at_T37 HR0_2.out x7_3 p175 q175
                 obtain rfl : ad167 = ad175:=(by injection e175)
                 replace hx175_0:=(HB.out.cell (World.block_lt_of_cell? w _ hx175_0)).trans hx175_0
                 replace hx175_1:=(HB.out.cell (World.block_lt_of_cell? w _ hx175_1)).trans hx175_1
                 replace p175:=eq_true p175
                 replace q175:=eq_true q175
                 try go_wp2_with (first|(at_builtin;refine print_append_str (w0:=w) w.heap.size rfl (.tmp 102) _ 63 9 5 rfl Try.underlying63 Try.underlying9 info5 v173 y172 ((rd_T37 l0_2 x7_3).f0) rfl rfl ?aO ?aB ?aS ?aL ?_;(case aB => exact (by repeat (first|(with_reducible first|exact HB.out|apply below_alloc|apply pw_below_drewN|apply below_drew1|refine below_set ?_ GE159.out)|exact HB.out)));(case aO => exact (Kd.own_of_R (by (with_reducible repeat (first|apply Kd.R_alloc|apply Kd.R_drewN|apply Kd.R_drew));exact Kd.R_mono HO174.out (fun _ hk => trivial))));(case aS => exact (below_size (by repeat (first|(with_reducible first|exact HB.out|apply below_alloc|apply pw_below_drewN|apply below_drew1|refine below_set ?_ GE159.out)|exact HB.out))));(case aL => have:=LMc31.out;omega);intro v177 w39 ho0 hb hg;have ho:=Kd.R_of_own (h1:=fun _ => rfl) (ok:=fun _ => True) ho0 (fun _ _ => trivial);clear ho0;have hat:=True.intro;rw [← Ny176.out] at ho;change Kd.R (Kd.int .u8) 5 w39 w.heap.size (fun _ => True) v177 y176 at ho;have n0_:=Aside0.mk (blk_grown (g:=gb159) (o:=.cells #[.int .i64 a0_0,.int .i64 a0_1,.slice (some ad167) l0_2.length c0_2] 30 (0,0)) (by (with_reducible repeat (first|refine blk_drewN ?_ _|refine blk_drew ?_|refine blk_alloc ?_ _));exact BK159.out) hg (Kd.R_ne HO174.out BK159.out (by decide)));have n1_:=Aside0.mk (hb);have n2_:=Aside0.mk (ho);clear BK159;clear HB;clear HO174;have BK159:=n0_;have HB:=n1_;have HO178:=n2_;clear n0_ n1_ n2_;clear ho hb hg hat;have hcz40_0 : w39.cell? ⟨gb159,0,none⟩ = some (.int .i64 a0_0):=(blk_cell BK159.out 0).trans rfl;have hcz40_1 : w39.cell? ⟨gb159,1,none⟩ = some (.int .i64 a0_1):=(blk_cell BK159.out 1).trans rfl;have hcz40_2 : w39.cell? ⟨gb159,2,none⟩ = some (.slice (some ad167) l0_2.length c0_2):=(blk_cell BK159.out 2).trans rfl;have hfz40_0:=blk_frozen BK159.out 0;have hfz40_1:=blk_frozen BK159.out 1;have hfz40_2:=blk_frozen BK159.out 2;have p179 : 0 ≤ (x7_3 : Int):=of_decide_eq_true (by first|(with_reducible assumption)|assumption);have q179 : x7_3 < (l0_2.length : Int):=of_decide_eq_true (by first|(with_reducible assumption)|assumption);obtain ⟨ad179,e179,hx179_0,hx179_1⟩:=at_T37 HR0_2.out x7_3 p179 q179;obtain rfl : ad167 = ad179:=(by injection e179);replace hx179_0:=(HB.out.cell (World.block_lt_of_cell? w _ hx179_0)).trans hx179_0;replace hx179_1:=(HB.out.cell (World.block_lt_of_cell? w _ hx179_1)).trans hx179_1;replace p179:=eq_true p179;replace q179:=eq_true q179)|(at_builtin;refine print_append_str (w0:=w) w.heap.size rfl (.tmp 110) _ 63 9 5 rfl Try.underlying63 Try.underlying9 info5 v177 y176 ((rd_T37 l0_2 x7_3).f1) rfl rfl ?aO ?aB ?aS ?aL ?_;(case aB => exact (by repeat (first|(with_reducible first|exact HB.out|apply below_alloc|apply pw_below_drewN|apply below_drew1|refine below_set ?_ GE159.out)|exact HB.out)));(case aO => exact (Kd.own_of_R (by (with_reducible repeat (first|apply Kd.R_alloc|apply Kd.R_drewN|apply Kd.R_drew));exact HO178.out)));(case aS => exact (below_size (by repeat (first|(with_reducible first|exact HB.out|apply below_alloc|apply pw_below_drewN|apply below_drew1|refine below_set ?_ GE159.out)|exact HB.out))));(case aL => have:=LMc32.out;omega);intro v181 w41 ho0 hb hg;have ho:=Kd.R_of_own (h1:=fun _ => rfl) (ok:=fun _ => True) ho0 (fun _ _ => trivial);clear ho0;have hat:=True.intro;rw [← Ny180.out] at ho;change Kd.R (Kd.int .u8) 5 w41 w.heap.size (fun _ => True) v181 y180 at ho;have n0_:=Aside0.mk (blk_grown (g:=gb159) (o:=.cells #[.int .i64 a0_0,.int .i64 a0_1,.slice (some ad167) l0_2.length c0_2] 30 (0,0)) (by (with_reducible repeat (first|refine blk_drewN ?_ _|refine blk_drew ?_|refine blk_alloc ?_ _));exact BK159.out) hg (Kd.R_ne HO178.out BK159.out (by decide)));have n1_:=Aside0.mk (hb);have n2_:=Aside0.mk (ho);clear BK159;clear HB;clear HO178;have BK159:=n0_;have HB:=n1_;have HO182:=n2_;clear n0_ n1_ n2_;clear ho hb hg hat))
                 go_roundg k3
                 case measure => have:=HJ1.out;have:=HK2.out;have:=HK3.out;omega
                 case rel => exact ⟨(y180),(wrap64 (x7_3 + 1)),(by first|rfl|(simp;done)|(simp [Go.Proofs.Ytffgodpmmipnkaa.Z.bne_nil,Go.Proofs.Ytffgodpmmipnkaa.Z.beq_nil];done)|(simp [*];done)),H',⟨by have:=HJ1.out;have:=HK2.out;have:=HK3.out;omega⟩,⟨by (with_reducible repeat (first|apply Kd.R_alloc|apply Kd.R_drewN|apply Kd.R_drew));exact HO182.out⟩,⟨by (with_reducible repeat (first|refine blk_drewN ?_ _|refine blk_drew ?_|refine blk_alloc ?_ _));exact BK159.out⟩,⟨by repeat (first|(with_reducible first|exact HB.out|apply below_alloc|apply pw_below_drewN|apply below_drew1|refine below_set ?_ GE159.out)|exact HB.out)⟩⟩
                ·rw [if_neg c32] at H
                 exact absurd H (by simp)
               ·rw [if_neg c31] at H
                exact absurd H (by simp)
              ·rw [if_neg c30] at H
               exact absurd H (by simp)
             ·rw [if_neg c29] at H
              exact absurd H (by simp)
            ·rw [if_neg c28] at H
             exact absurd H (by simp)
           ·rw [if_neg c27] at H
            have c27b0 : decide (x7_3 < (l0_2.length : Int)) = false:=decide_eq_false c27
            clear c27
            obtain ⟨ji42,hji42⟩ : ∃ j_ : Int,(wrap64 (512 - (x6_3.length : Int))) = j_:=⟨_,rfl⟩
            replace H : (if 0 ≤ (ji42) then (if (ji42 : Int).toNat ≤ 281474976710656 then ((some (List.replicate (ji42 : Int).toNat 0 : List Int)).bind fun y183 => (if (strOfNums x6_3).size + (strOfNums y183).size ≤ 9223372036854775807 then (some ((strOfNums x6_3) ++ (strOfNums y183),0)) else (none))) else (none)) else (none)) = some (r1,r2):=by first|(rw [hji42] at H;exact H)|(simp only [hji42] at H ⊢;exact H)
            have hji42w : (IntKind.i64.wrap (512 - (x6_3.length : Int))) = ji42:=(i64_w _).trans hji42
            by_cases c43 : 0 ≤ (ji42)
            ·rw [if_pos c43] at H
             have c43b0:=eq_true c43
             have c43b1 : decide (0 ≤ (ji42)) = true:=decide_eq_true c43
             clear c43
             by_cases c44 : (ji42 : Int).toNat ≤ 281474976710656
             ·rw [if_pos c44] at H
              have c44b0:=eq_true c44
              have c44b1 : decide ((ji42 : Int).toNat ≤ 281474976710656) = true:=decide_eq_true c44
              clear c44
              obtain ⟨y183,hy183⟩ : ∃ y_ : List Int,y_ = (List.replicate (ji42 : Int).toNat 0):=⟨_,rfl⟩
              replace H : (if (strOfNums x6_3).size + (strOfNums y183).size ≤ 9223372036854775807 then (some ((strOfNums x6_3) ++ (strOfNums y183),0)) else (none)) = some (r1,r2):=by first|(rw [hy183];with_reducible exact H)|(have H2_:=(Option.bind_some _ _).symm.trans H;rw [hy183];with_reducible exact H2_)|(have H2_:=(Option.bind_some _ _).symm.trans H;with_reducible exact H2_)|with_reducible exact H|(rw [hy183];exact H)|exact H
              have Ny183:=Aside0.mk hy183
              clear hy183
              by_cases c45 : (strOfNums x6_3).size + (strOfNums y183).size ≤ 9223372036854775807
              ·rw [if_pos c45] at H
               have c45b0:=eq_true c45
               have c45b1 : decide ((strOfNums x6_3).size + (strOfNums y183).size ≤ 9223372036854775807) = true:=decide_eq_true c45
               try have c45b2 : (9223372036854775807 < (strOfNums x6_3).size + (strOfNums y183).size) = False:=eq_false (Nat.not_lt.2 c45)
               simp only [Option.some.injEq,Prod.mk.injEq] at H
               obtain ⟨rfl,rfl⟩:=H
               try go_wp2
               have n0_:=Aside0.mk (Kd.R_drew HO_6.out)
               have n1_:=Aside0.mk (blk_drew BK159.out)
               have n2_:=Aside0.mk (below_drew1 HB.out)
               clear HO_6
               clear BK159
               clear HB
               have HO_6:=n0_
               have BK159:=n1_
               have HB:=n2_
               clear n0_ n1_ n2_
               obtain ⟨Ao48,co48,eo48⟩:=Kd.R_slice HO_6.out
               (first|subst eo48|(injection eo48 with f1_ f2_ f3_;have f4_:=f1_.symm;have f5_:=f3_.symm;clear f1_ f2_ f3_;subst f4_;subst f5_))
               refine start_ (n:=10) (S:=fun w' => (convert 63 9 (.slice Ao48 x6_3.length co48)).run Try.prog w' = .ok (.string (strOfNums x6_3)) w') (ds:=[]) #[false,false,false,false,false,false,false,false,false,false] (by kernel_rfl) rfl rfl (own_string (P:=Try.prog) Try.underlying63 Try.underlying5 Try.underlying9 (Kd.own_of_R HO_6.out)) (fun hHeld => ?_);refine with_tabW cofferref10_Write.tab20 cofferref10_Write.bits20 (fun HT_ HW_ => ?_)
               generalize wr.drew = w46 at HO_6 BK159 HB hHeld ⊢
               refine pure_ (i:=0) (N:=some 118) (v:=?_) (a':=?_) #[true,false,false,false,false,false,false,false,false,false] rfl rfl (any_of HT_.out (by kernel_rfl)) (fun _ _ _ h => h) (Or.inl ⟨by rfl,?_⟩) ?_ ?_
               rotate_left
               ·intro w'
                go_simp
                with_reducible rfl
               rotate_left
               ·simp only [Act.put,List.setIfInBounds_toArray,List.set_cons_zero,List.set_cons_succ,i64_w,i32_w]
                rfl
               refine pure_ (i:=2) (N:=some 120) (v:=?_) (a':=?_) #[true,false,true,false,false,false,false,false,false,false] rfl rfl (any_of HT_.out (by kernel_rfl)) (fun _ _ _ h => h) (Or.inl ⟨by rfl,?_⟩) ?_ ?_
               rotate_left
               ·intro w'
                go_simp
                with_reducible rfl
               rotate_left
               ·simp only [Act.put,List.setIfInBounds_toArray,List.set_cons_zero,List.set_cons_succ,i64_w,i32_w]
                rfl
               refine pure_ (i:=3) (N:=some 121) (v:=?_) (a':=?_) #[true,false,true,true,false,false,false,false,false,false] rfl rfl (any_of HT_.out (by kernel_rfl)) (fun _ _ _ h => h) (Or.inl ⟨by rfl,?_⟩) ?_ ?_
               rotate_left
               ·intro w'
                go_simp
                with_reducible rfl
               rotate_left
               ·simp only [Act.put,List.setIfInBounds_toArray,List.set_cons_zero,List.set_cons_succ,i64_w,i32_w]
                rfl
               refine pure_ (i:=4) (N:=some 122) (v:=?_) (a':=?_) #[true,false,true,true,true,false,false,false,false,false] rfl rfl (any_of HT_.out (by kernel_rfl)) (fun _ _ _ h => h) (Or.inl ⟨by rfl,?_⟩) ?_ ?_
               rotate_left
               ·intro w'
                go_simp
                with_reducible rfl
               rotate_left
               ·simp only [Act.put,List.setIfInBounds_toArray,List.set_cons_zero,List.set_cons_succ,i64_w,i32_w]
                rfl
               refine take_ (i:=1) (N:=some 119) (v:=?_) (a':=?_) #[true,true,true,true,true,false,false,false,false,false] rfl rfl (take_ofW HT_.out HW_.out (by kernel_rfl)) (fun _ _ _ h => h) (Or.inl ⟨by rfl,?_⟩) hHeld ?_ ?_
               rotate_left
               ·intro w' s0
                go_simp
                with_reducible rfl
               rotate_left
               ·simp only [Act.put,List.setIfInBounds_toArray,List.set_cons_zero,List.set_cons_succ,i64_w,i32_w]
                rfl
               refine one_ (i:=5) (N:=some 123) #[true,true,true,true,true,true,false,false,false,false] rfl rfl (one_of HT_.out (by kernel_rfl)) (by decide) (fun K hK => ?_)
               refine Kd.R_make_step (Kd.int .u8) _ 5 (by rfl) (N:=123) rfl 63 _ _ rfl ji42 rfl rfl Try.underlying63 (.int .u8 0) 1 info5 rfl (by decide) (by omega) 0 (ok:=fun _ => True) (okp:=fun _ => True) rfl (fun _ hk => hk) trivial (of_decide_eq_true (by first|(with_reducible assumption)|assumption)) (Nat.le_trans (Nat.mul_le_mul_right _ (of_decide_eq_true (by first|(with_reducible assumption)|assumption) : ji42.toNat ≤ 281474976710656)) (by omega)) (Below.refl _ _) (Nat.le_refl _) ?_
               intro v184 w49 ho50 hb hg_ hnew_
               clear hg_ hnew_
               (first|rw [← Ny183.out] at ho50|(simp only [Int.reduceToNat] at ho50;rw [← Ny183.out] at ho50))
               have n0_:=Aside0.mk (Kd.R_elder' (by (with_reducible repeat (first|apply Kd.R_alloc|apply Kd.R_drewN|apply Kd.R_drew));exact HO_6.out) (Kd.R_base ho50) hb)
               have n1_:=Aside0.mk (Kd.R_lower (Kd.R_new' ho50 (Kd.R_lt (by (with_reducible repeat (first|apply Kd.R_alloc|apply Kd.R_drewN|apply Kd.R_drew));exact HO_6.out))) (below_size (by repeat (first|(with_reducible first|exact HB.out|apply below_alloc|apply pw_below_drewN|apply below_drew1|refine below_set ?_ GE159.out)|exact HB.out))))
               have n2_:=Aside0.mk (blk_below (g:=gb159) (o:=.cells #[.int .i64 a0_0,.int .i64 a0_1,.slice A0_2 l0_2.length c0_2] 30 (0,0)) (by (with_reducible repeat (first|refine blk_drewN ?_ _|refine blk_drew ?_|refine blk_alloc ?_ _));exact BK159.out) hb)
               have n3_:=Aside0.mk (below_step (by repeat (first|(with_reducible first|exact HB.out|apply below_alloc|apply pw_below_drewN|apply below_drew1|refine below_set ?_ GE159.out)|exact HB.out)) hb)
               clear HO_6
               clear BK159
               clear HB
               have HO_6:=n0_
               have HO185:=n1_
               have BK159:=n2_
               have HB:=n3_
               clear n0_ n1_ n2_ n3_
               clear hb ho50
               refine hK.out _ _ (own_string (P:=Try.prog) Try.underlying63 Try.underlying5 Try.underlying9 (Kd.own_of_R HO_6.out)) (fun hHeld => ?_)
               clear hK K
               refine norm_ (a':=?_) ?_ ?_
               rotate_left
               ·show Act.put _ (some 123) _ = _
                simp only [Act.put,List.setIfInBounds_toArray,List.set_cons_zero,List.set_cons_succ,i64_w,i32_w]
                rfl
               refine one_ (i:=6) (N:=some 124) #[true,true,true,true,true,true,true,false,false,false] rfl rfl (one_of HT_.out (by kernel_rfl)) (by decide) (fun K hK => ?_)
               have hcv51:=own_string (P:=Try.prog) Try.underlying63 Try.underlying5 Try.underlying9 (Kd.own_of_R HO185.out)
               refine value_ (w1:=?_) (v:=?_) (by rfl) rfl ?_ ?_
               rotate_left 2
               ·go_simp
                constructor
                ·rfl
                ·rfl
               clear hcv51
               refine hK.out _ _ (own_string (P:=Try.prog) Try.underlying63 Try.underlying5 Try.underlying9 (Kd.own_of_R HO_6.out)) (fun hHeld => ?_)
               clear hK K
               refine norm_ (a':=?_) ?_ ?_
               rotate_left
               ·show Act.put _ (some 124) _ = _
                simp only [Act.put,List.setIfInBounds_toArray,List.set_cons_zero,List.set_cons_succ,i64_w,i32_w]
                rfl
               refine pure_ (i:=7) (N:=some 125) (v:=?_) (a':=?_) #[true,true,true,true,true,true,true,true,false,false] rfl rfl (any_of HT_.out (by kernel_rfl)) (fun _ _ _ h => h) (Or.inl ⟨by rfl,?_⟩) ?_ ?_
               rotate_left
               ·intro w'
                go_simp
                with_reducible rfl
               rotate_left
               ·simp only [Act.put,List.setIfInBounds_toArray,List.set_cons_zero,List.set_cons_succ,i64_w,i32_w]
                rfl
               refine pure_ (i:=8) (N:=some 2) (v:=?_) (a':=?_) #[true,true,true,true,true,true,true,true,true,false] rfl rfl (any_of HT_.out (by kernel_rfl)) (fun _ _ _ h => h) (Or.inl ⟨by rfl,?_⟩) ?_ ?_
               rotate_left
               ·intro w'
                go_simp
                with_reducible rfl
               rotate_left
               ·simp only [Act.put,List.setIfInBounds_toArray,List.set_cons_zero,List.set_cons_succ,i64_w,i32_w]
                rfl
               refine pure_ (i:=9) (N:=some 3) (v:=?_) (a':=?_) #[true,true,true,true,true,true,true,true,true,true] rfl rfl (any_of HT_.out (by kernel_rfl)) (fun _ _ _ h => h) (Or.inl ⟨by rfl,?_⟩) ?_ ?_
               rotate_left
               ·intro w'
                go_simp
                with_reducible rfl
               rotate_left
               ·simp only [Act.put,List.setIfInBounds_toArray,List.set_cons_zero,List.set_cons_succ,i64_w,i32_w]
                rfl
               refine done_ (done_of HT_.out (by kernel_rfl)) ?_
               try go_wp2
               go_ret2
               exact ⟨by first|rfl|(simp [errW_none,errW_some] <;> rfl)|(simp only [← hji42];first|rfl|(simp [errW_none,errW_some] <;> rfl))|(simp [*,errW_none,errW_some] <;> rfl),by repeat (first|(with_reducible first|exact HB.out|apply below_alloc|apply pw_below_drewN|apply below_drew1|refine below_set ?_ GE159.out)|exact HB.out)⟩
              ·rw [if_neg c45] at H
               exact absurd H (by simp)
             ·rw [if_neg c44] at H
              exact absurd H (by simp)
            ·rw [if_neg c43] at H
             exact absurd H (by simp)
        ·replace c23:=Bool.eq_false_iff.mpr c23
         subst c23
         have H1 : (some ((⟨#[]⟩ : ByteArray),4)) = some (r1,r2):=by rw [if_neg (show ¬ (false = true) by decide)] at H;exact H
         clear H
         have H:=H1
         clear H1
         simp only [Option.some.injEq,Prod.mk.injEq] at H
         obtain ⟨rfl,rfl⟩:=H
         have hcz52_0 : wr.cell? ⟨gb159,0,none⟩ = some (.int .i64 a0_0):=(blk_cell BK159.out 0).trans rfl
         have hcz52_1 : wr.cell? ⟨gb159,1,none⟩ = some (.int .i64 a0_1):=(blk_cell BK159.out 1).trans rfl
         have hcz52_2 : wr.cell? ⟨gb159,2,none⟩ = some (.slice A0_2 l0_2.length c0_2):=(blk_cell BK159.out 2).trans rfl
         have hfz52_0:=blk_frozen BK159.out 0
         have hfz52_1:=blk_frozen BK159.out 1
         have hfz52_2:=blk_frozen BK159.out 2
         go_wp2_with (first|((with_reducible refine gate_callee (f:=17) rfl ?_);refine goesL_ (some 53) rfl rfl Try.func17 (by kernel_rfl) rfl #[.slice A0_2 l0_2.length c0_2] rfl (by (try simp only [List.map_toArray,List.map_cons,List.map_nil]);first|done|rfl|(simp only [List.length_drop,List.length_take];rfl)) ?_;(with_reducible refine (cofferref10_Size.calls k2 _ _ l0_2 t162 _ ?side1 ?side2 A19.out).mono ?_);(case side1 => repeat (first|exact (Kd.C_below HR0_2.out HB.out)|(with_reducible refine Kd.C_alloc ?_ _)|(with_reducible refine Kd.C_drewN ?_ _)|(with_reducible refine Kd.C_drew ?_)));(case side2 => exact HC0_2.out);rintro e w' ⟨rfl,⟨nd,rfl⟩⟩;refine ⟨_,rfl,?_⟩)|((with_reducible refine gate_callee (f:=37) rfl ?_);refine goesL_ (some 57) rfl rfl Try.func37 (by kernel_rfl) rfl #[.slice A0_2 l0_2.length c0_2] rfl (by (try simp only [List.map_toArray,List.map_cons,List.map_nil]);first|done|rfl|(simp only [List.length_drop,List.length_take];rfl)) ?_;(with_reducible refine (cofferref10_Sorted.calls k2 _ _ l0_2 false _ ?side1 ?side2 A22.out).mono ?_);(case side1 => repeat (first|exact (Kd.C_below HR0_2.out (by repeat (first|(with_reducible first|exact HB.out|apply below_alloc|apply pw_below_drewN|apply below_drew1|refine below_set ?_ GE159.out)|exact HB.out)))|(with_reducible refine Kd.C_alloc ?_ _)|(with_reducible refine Kd.C_drewN ?_ _)|(with_reducible refine Kd.C_drew ?_)));(case side2 => exact HC0_2.out);rintro e w' ⟨rfl,⟨nd,rfl⟩⟩;refine ⟨_,rfl,?_⟩))
         go_ret2
         exact ⟨by first|rfl|(simp [errW_none,errW_some] <;> rfl)|(simp [*,errW_none,errW_some] <;> rfl),by repeat (first|(with_reducible first|exact HB.out|apply below_alloc|apply pw_below_drewN|apply below_drew1|refine below_set ?_ GE159.out)|exact HB.out)⟩

end Go.Proofs.Ytffgodpmmipnkaa.X
