-- By a program of this session (wip/xprint.py over the kit's print).
import Derived.Test.YtffgodpmmipnkaaX0
import Derived.Test.YtffgodpmmipnkaaZMake
import Derived.Shelf.Abstract
import Derived.Test.YtffgodpmmipnkaaXA
import Derived.Test.YtffgodpmmipnkaaX25
namespace Go.Proofs.Ytffgodpmmipnkaa.X
open Go.RowKit Go.Proofs.YtffgodpmmipnkaaW.PrintWords Go.Proofs.YtffgodpmmipnkaaW.PrintLast Go.Proofs.YtffgodpmmipnkaaW.PrintMore
attribute [local go_sem] max2_int min2_int max_two min_two max_three min_three max_four min_four Go.Proofs.Ytffgodpmmipnkaa.Z.leq_string Go.Proofs.Ytffgodpmmipnkaa.Z.gtr_string Go.Proofs.Ytffgodpmmipnkaa.Z.geq_string   -- for this text's walks alone
set_option linter.unusedVariables false
set_option linter.unusedSimpArgs false

/-! ### page_Write: function 10 -/
mutual
def page_Write.j0 : Nat → Bool → Int → Int → List (S37) → Option (ByteArray × Int)
 | 0,_,_,_,_ => none
 | k + 1,x7,x128000,x128001,x128002 => if x7 = true then (some ((⟨#[]⟩ : ByteArray),1)) else ((api_Entry_33.f k x128002 0).bind fun t128 => (if t128 = true then (page_Write.j1 k true x128000 x128001 x128002) else ((page_Size.f k x128002).bind fun t129 => (page_Write.j1 k (decide (t129 > 507)) x128000 x128001 x128002))))
def page_Write.j1 : Nat → Bool → Int → Int → List (S37) → Option (ByteArray × Int)
 | 0,_,_,_,_ => none
 | k + 1,x26,x128000,x128001,x128002 => if x26 = true then (some ((⟨#[]⟩ : ByteArray),3)) else ((page_sorted.f k x128002).bind fun t130 => (if t130 = true then (if 0 ≤ 281474976710656 then ((some (List.replicate 0 0 : List Int)).bind fun y131 => ((some (([(x128000) % 256,(x128001 / 256) % 256,(x128001) % 256,((x128002.length : Int) / 256) % 256,((x128002.length : Int)) % 256] : List Int) : List Int)).bind fun y134 => (if y131.length + y134.length < 140737488355328 then (page_Write.l0 k (y131 ++ y134) x128002 (x128002.length : Int) 0) else (none)))) else (none)) else (some ((⟨#[]⟩ : ByteArray),4))))
def page_Write.l0 : Nat → List Int → List (S37) → Int → Int → Option (ByteArray × Int)
 | 0,_,_,_,_ => none
 | k + 1,x4,x65,x66,x67 => if x67 < x66 then (if 0 ≤ x67 then (if x67 < (x65.length : Int) then ((some (([((((rd_T37 x65 x67).f0).size : Int)) % 256,((((rd_T37 x65 x67).f1).size : Int)) % 256] : List Int) : List Int)).bind fun y142 => (if x4.length + y142.length < 140737488355328 then ((some (x4 ++ y142 : List Int)).bind fun y145 => (if y145.length + ((rd_T37 x65 x67).f0).size < 140737488355328 then ((some (y145 ++ bytesOf ((rd_T37 x65 x67).f0) : List Int)).bind fun y148 => (if y148.length + ((rd_T37 x65 x67).f1).size < 140737488355328 then (page_Write.l0 k (y148 ++ bytesOf ((rd_T37 x65 x67).f1)) x65 x66 (wrap64 (x67 + 1))) else (none))) else (none))) else (none))) else (none)) else (none)) else ((strings_Repeat.f (⟨#[0]⟩ : ByteArray) (wrap64 (512 - (x4.length : Int)))).bind fun t154 => (if (strOfNums x4).size + t154.size ≤ 9223372036854775807 then (some ((strOfNums x4) ++ t154,0)) else (none)))
end
def page_Write.f (k : Nat) (a0_0 : Int) (a0_1 : Int) (l0_2 : List (S37)) : Option (ByteArray × Int):=if a0_0 < 0 then (page_Write.j0 k true a0_0 a0_1 l0_2) else (if a0_0 > 255 then (page_Write.j0 k true a0_0 a0_1 l0_2) else (if a0_1 < 0 then (page_Write.j0 k true a0_0 a0_1 l0_2) else (page_Write.j0 k (decide (a0_1 > 65535)) a0_0 a0_1 l0_2)))
theorem page_Write.mono_l : ∀ k,(∀ y0 y1 y2 y3,LeO (page_Write.j0 k y0 y1 y2 y3) (page_Write.j0 (k + 1) y0 y1 y2 y3)) ∧ (∀ y0 y1 y2 y3,LeO (page_Write.j1 k y0 y1 y2 y3) (page_Write.j1 (k + 1) y0 y1 y2 y3)) ∧ (∀ y0 y1 y2 y3,LeO (page_Write.l0 k y0 y1 y2 y3) (page_Write.l0 (k + 1) y0 y1 y2 y3))
 | 0 => ⟨fun _ _ _ _ r h => by simp [page_Write.j0] at h,fun _ _ _ _ r h => by simp [page_Write.j1] at h,fun _ _ _ _ r h => by simp [page_Write.l0] at h⟩
 | k + 1 => by
  obtain ⟨ih0,ih1,ih2⟩:=page_Write.mono_l k
  refine ⟨?_,?_,?_⟩
  ·intro y0 y1 y2 y3
   unfold page_Write.j0
   repeat' first
   | (with_reducible exact ih0 _ _ _ _)
   | (with_reducible exact ih1 _ _ _ _)
   | (with_reducible exact ih2 _ _ _ _)
   | (with_reducible exact api_Entry_33.mono _ _ _)
   | (with_reducible exact page_Size.mono _ _)
   | (with_reducible exact page_sorted.mono _ _)
   | (with_reducible exact LeO.refl _)
   | (with_reducible exact LeO.none _)
   | (with_reducible refine LeO.ite ?_ ?_)
   | (with_reducible refine LeO.bind ?_ (fun _ => ?_))
   | exact ih0 _ _ _ _
   | exact ih1 _ _ _ _
   | exact ih2 _ _ _ _
   | exact api_Entry_33.mono _ _ _
   | exact page_Size.mono _ _
   | exact page_sorted.mono _ _
   | exact LeO.none _
   | refine LeO.ite ?_ ?_
   | refine LeO.bind ?_ (fun _ => ?_)
  ·intro y0 y1 y2 y3
   unfold page_Write.j1
   repeat' first
   | (with_reducible exact ih0 _ _ _ _)
   | (with_reducible exact ih1 _ _ _ _)
   | (with_reducible exact ih2 _ _ _ _)
   | (with_reducible exact api_Entry_33.mono _ _ _)
   | (with_reducible exact page_Size.mono _ _)
   | (with_reducible exact page_sorted.mono _ _)
   | (with_reducible exact LeO.refl _)
   | (with_reducible exact LeO.none _)
   | (with_reducible refine LeO.ite ?_ ?_)
   | (with_reducible refine LeO.bind ?_ (fun _ => ?_))
   | exact ih0 _ _ _ _
   | exact ih1 _ _ _ _
   | exact ih2 _ _ _ _
   | exact api_Entry_33.mono _ _ _
   | exact page_Size.mono _ _
   | exact page_sorted.mono _ _
   | exact LeO.none _
   | refine LeO.ite ?_ ?_
   | refine LeO.bind ?_ (fun _ => ?_)
  ·intro y0 y1 y2 y3
   unfold page_Write.l0
   repeat' first
   | (with_reducible exact ih0 _ _ _ _)
   | (with_reducible exact ih1 _ _ _ _)
   | (with_reducible exact ih2 _ _ _ _)
   | (with_reducible exact api_Entry_33.mono _ _ _)
   | (with_reducible exact page_Size.mono _ _)
   | (with_reducible exact page_sorted.mono _ _)
   | (with_reducible exact LeO.refl _)
   | (with_reducible exact LeO.none _)
   | (with_reducible refine LeO.ite ?_ ?_)
   | (with_reducible refine LeO.bind ?_ (fun _ => ?_))
   | exact ih0 _ _ _ _
   | exact ih1 _ _ _ _
   | exact ih2 _ _ _ _
   | exact api_Entry_33.mono _ _ _
   | exact page_Size.mono _ _
   | exact page_sorted.mono _ _
   | exact LeO.none _
   | refine LeO.ite ?_ ?_
   | refine LeO.bind ?_ (fun _ => ?_)
theorem page_Write.mono : ∀ a0 a1 a2 k,LeO (page_Write.f k a0 a1 a2) (page_Write.f (k + 1) a0 a1 a2):=by
 intro a0 a1 a2 k
 obtain ⟨ih0,ih1,ih2⟩:=page_Write.mono_l k
 unfold page_Write.f
 repeat' first
  | (with_reducible exact ih0 _ _ _ _)
  | (with_reducible exact ih1 _ _ _ _)
  | (with_reducible exact ih2 _ _ _ _)
  | (with_reducible exact api_Entry_33.mono _ _ _)
  | (with_reducible exact page_Size.mono _ _)
  | (with_reducible exact page_sorted.mono _ _)
  | (with_reducible exact LeO.refl _)
  | (with_reducible exact LeO.none _)
  | (with_reducible refine LeO.ite ?_ ?_)
  | (with_reducible refine LeO.bind ?_ (fun _ => ?_))
  | exact ih0 _ _ _ _
  | exact ih1 _ _ _ _
  | exact ih2 _ _ _ _
  | exact api_Entry_33.mono _ _ _
  | exact page_Size.mono _ _
  | exact page_sorted.mono _ _
  | exact LeO.none _
  | refine LeO.ite ?_ ?_
  | refine LeO.bind ?_ (fun _ => ?_)
def page_Write.T16 : Bool × List (List Nat × List Nat):=(true,[([],[]),([0],[0]),([],[]),([2],[2]),([3],[3]),([4],[4]),([1,5],[1,5]),([6,5,0,1,2,3,4,5,6],[6]),([7,0,1,2,3,4,5,6,7],[])])
def page_Write.B16 : List Nat:=[0,1,0,4,12,28,63,127,255]
theorem page_Write.tab16 : rtab .any (opsOf Try.f10 16) = page_Write.T16:=by kernel_rfl
theorem page_Write.bits16 : waitsOk page_Write.T16.2 page_Write.B16 = true:=by kernel_rfl
set_option maxHeartbeats 8000000 in
set_option maxRecDepth 100000 in
theorem page_Write.calls (k : Nat) (a0_0 : Int) (a0_1 : Int) (A0_2 : Option Addr) (c0_2 : Nat) (l0_2 : List (S37)) (r1 : ByteArray) (r2 : Int) (w : World) (hr0_2 : Kd.C k37 w A0_2 l0_2.length l0_2) (hc0_2 : l0_2.length ≤ c0_2) (h : page_Write.f k a0_0 a0_1 l0_2 = some (r1,r2)) :
 Calls Try.prog 10 #[.agg #[.int .i64 a0_0,.int .i64 a0_1,.slice A0_2 l0_2.length c0_2]] w fun e w' => e = .returned (.tuple #[.string r1,.int .i64 r2]) ∧ Below w.heap.size w w':=by   -- function values back
 have hu28:=Try.underlying28
 have hu37:=Try.underlying37
 have HR0_2:=Aside0.mk hr0_2
 have HC0_2:=Aside0.mk hc0_2
 clear hr0_2 hc0_2
 have HB:=Aside0.mk (Below.refl w.heap.size w)
 have H : (if a0_0 < 0 then (page_Write.j0 k true a0_0 a0_1 l0_2) else (if a0_0 > 255 then (page_Write.j0 k true a0_0 a0_1 l0_2) else (if a0_1 < 0 then (page_Write.j0 k true a0_0 a0_1 l0_2) else (page_Write.j0 k (decide (a0_1 > 65535)) a0_0 a0_1 l0_2)))) = some (r1,r2):=h
 clear h
 have HC2:=Aside0.mk H
 clear H
 go_enter Try.func10,Try.ntmps10
 go_upto_region 1 with (first|((with_reducible refine gate_dst (N:=1) rfl ?_);refine box_event ?hg (N:=1) ?hd (cs:=#[.int .i64 a0_0,.int .i64 a0_1,.slice A0_2 l0_2.length c0_2]) (t:=28) ?hr ?_;(case hd => rfl);(case hg => rfl);(case hr => first|(go_simp;done)|(go_simp;rfl));intro gb127 hg w3 hbox hb;have n0_:=Aside0.mk (below_step (by repeat (first|(with_reducible first|exact HB.out|apply below_alloc|apply pw_below_drewN|apply below_drew1)|exact HB.out)) hb);have n1_:=Aside0.mk (hbox);have n2_:=Aside0.mk ((by rw [hg];exact (below_size (by repeat (first|(with_reducible first|exact HB.out|apply below_alloc|apply pw_below_drewN|apply below_drew1)|exact HB.out))) : w.heap.size ≤ gb127));have n3_:=Aside0.mk ((by rw [hg];exact (below_size (by repeat (first|(with_reducible first|exact HB.out|apply below_alloc|apply pw_below_drewN|apply below_drew1)|exact HB.out))) : w.heap.size ≤ gb127));clear HB;have HB:=n0_;have BK127:=n1_;have GW127:=n2_;have GE127:=n3_;clear n0_ n1_ n2_ n3_;clear hb hbox hg))
 (try simp only [Act.put,List.setIfInBounds_toArray,List.set_cons_zero,List.set_cons_succ])
 go_cut [7] (fun v7 wc => ∃ (kq : Nat) (x7_1 : Bool),v7 = .bool x7_1 ∧ Aside0 (page_Write.j0 kq x7_1 a0_0 a0_1 l0_2 = some (r1,r2)) ∧ Aside0 (kq ≤ k) ∧ Aside0 (wc.heap[gb127]? = some (.cells #[.int .i64 a0_0,.int .i64 a0_1,(.slice A0_2 l0_2.length c0_2)] 28 (0,0))) ∧ Aside0 (Below w.heap.size w wc))
 case first =>
  have H:=HC2.out
  clear HC2
  by_cases c4 : a0_0 < 0
  ·rw [if_pos c4] at H
   have c4b0 : decide (a0_0 < 0) = true:=decide_eq_true c4
   clear c4
   (first|rw [c4b0]|(simp only [i64_w,i32_w];rw [c4b0])|rw [c4b1]|skip)
   have H':=Aside0.mk H
   clear H
   have hcz5_0 : w3.cell? ⟨gb127,0,none⟩ = some (.int .i64 a0_0):=(blk_cell BK127.out 0).trans rfl
   have hcz5_1 : w3.cell? ⟨gb127,1,none⟩ = some (.int .i64 a0_1):=(blk_cell BK127.out 1).trans rfl
   have hcz5_2 : w3.cell? ⟨gb127,2,none⟩ = some (.slice A0_2 l0_2.length c0_2):=(blk_cell BK127.out 2).trans rfl
   have hfz5_0:=blk_frozen BK127.out 0
   have hfz5_1:=blk_frozen BK127.out 1
   have hfz5_2:=blk_frozen BK127.out 2
   go_wp2
   go_meet
   case rel => exact ⟨_,(true),(by first|rfl|(simp;done)|(simp [Go.Proofs.Ytffgodpmmipnkaa.Z.bne_nil,Go.Proofs.Ytffgodpmmipnkaa.Z.beq_nil];done)|(simp [*];done)),H',⟨by first|omega|exact Nat.le_refl _⟩,⟨by (with_reducible repeat (first|refine blk_drewN ?_ _|refine blk_drew ?_|refine blk_alloc ?_ _));exact BK127.out⟩,⟨by repeat (first|(with_reducible first|exact HB.out|apply below_alloc|apply pw_below_drewN|apply below_drew1|refine below_set ?_ GE127.out)|exact HB.out)⟩⟩
  ·rw [if_neg c4] at H
   have c4b0 : decide (a0_0 < 0) = false:=decide_eq_false c4
   clear c4
   (first|rw [c4b0]|(simp only [i64_w,i32_w];rw [c4b0])|rw [c4b1]|skip)
   by_cases c6 : a0_0 > 255
   ·rw [if_pos c6] at H
    have c6b0 : decide (255 < a0_0) = true:=decide_eq_true c6
    clear c6
    have H':=Aside0.mk H
    clear H
    have hcz7_0 : w3.cell? ⟨gb127,0,none⟩ = some (.int .i64 a0_0):=(blk_cell BK127.out 0).trans rfl
    have hcz7_1 : w3.cell? ⟨gb127,1,none⟩ = some (.int .i64 a0_1):=(blk_cell BK127.out 1).trans rfl
    have hcz7_2 : w3.cell? ⟨gb127,2,none⟩ = some (.slice A0_2 l0_2.length c0_2):=(blk_cell BK127.out 2).trans rfl
    have hfz7_0:=blk_frozen BK127.out 0
    have hfz7_1:=blk_frozen BK127.out 1
    have hfz7_2:=blk_frozen BK127.out 2
    go_wp2
    go_meet
    case rel => exact ⟨_,(true),(by first|rfl|(simp;done)|(simp [Go.Proofs.Ytffgodpmmipnkaa.Z.bne_nil,Go.Proofs.Ytffgodpmmipnkaa.Z.beq_nil];done)|(simp [*];done)),H',⟨by first|omega|exact Nat.le_refl _⟩,⟨by (with_reducible repeat (first|refine blk_drewN ?_ _|refine blk_drew ?_|refine blk_alloc ?_ _));exact BK127.out⟩,⟨by repeat (first|(with_reducible first|exact HB.out|apply below_alloc|apply pw_below_drewN|apply below_drew1|refine below_set ?_ GE127.out)|exact HB.out)⟩⟩
   ·rw [if_neg c6] at H
    have c6b0 : decide (255 < a0_0) = false:=decide_eq_false c6
    clear c6
    by_cases c8 : a0_1 < 0
    ·rw [if_pos c8] at H
     have c8b0 : decide (a0_1 < 0) = true:=decide_eq_true c8
     clear c8
     have H':=Aside0.mk H
     clear H
     have hcz9_0 : w3.cell? ⟨gb127,0,none⟩ = some (.int .i64 a0_0):=(blk_cell BK127.out 0).trans rfl
     have hcz9_1 : w3.cell? ⟨gb127,1,none⟩ = some (.int .i64 a0_1):=(blk_cell BK127.out 1).trans rfl
     have hcz9_2 : w3.cell? ⟨gb127,2,none⟩ = some (.slice A0_2 l0_2.length c0_2):=(blk_cell BK127.out 2).trans rfl
     have hfz9_0:=blk_frozen BK127.out 0
     have hfz9_1:=blk_frozen BK127.out 1
     have hfz9_2:=blk_frozen BK127.out 2
     go_wp2
     go_meet
     case rel => exact ⟨_,(true),(by first|rfl|(simp;done)|(simp [Go.Proofs.Ytffgodpmmipnkaa.Z.bne_nil,Go.Proofs.Ytffgodpmmipnkaa.Z.beq_nil];done)|(simp [*];done)),H',⟨by first|omega|exact Nat.le_refl _⟩,⟨by (with_reducible repeat (first|refine blk_drewN ?_ _|refine blk_drew ?_|refine blk_alloc ?_ _));exact BK127.out⟩,⟨by repeat (first|(with_reducible first|exact HB.out|apply below_alloc|apply pw_below_drewN|apply below_drew1|refine below_set ?_ GE127.out)|exact HB.out)⟩⟩
    ·rw [if_neg c8] at H
     have c8b0 : decide (a0_1 < 0) = false:=decide_eq_false c8
     clear c8
     have H':=Aside0.mk H
     clear H
     have hcz10_0 : w3.cell? ⟨gb127,0,none⟩ = some (.int .i64 a0_0):=(blk_cell BK127.out 0).trans rfl
     have hcz10_1 : w3.cell? ⟨gb127,1,none⟩ = some (.int .i64 a0_1):=(blk_cell BK127.out 1).trans rfl
     have hcz10_2 : w3.cell? ⟨gb127,2,none⟩ = some (.slice A0_2 l0_2.length c0_2):=(blk_cell BK127.out 2).trans rfl
     have hfz10_0:=blk_frozen BK127.out 0
     have hfz10_1:=blk_frozen BK127.out 1
     have hfz10_2:=blk_frozen BK127.out 2
     go_wp2
     go_meet
     case rel => exact ⟨_,(decide (a0_1 > 65535)),(by first|rfl|(simp;done)|(simp [Go.Proofs.Ytffgodpmmipnkaa.Z.bne_nil,Go.Proofs.Ytffgodpmmipnkaa.Z.beq_nil];done)|(simp [*];done)),H',⟨by first|omega|exact Nat.le_refl _⟩,⟨by (with_reducible repeat (first|refine blk_drewN ?_ _|refine blk_drew ?_|refine blk_alloc ?_ _));exact BK127.out⟩,⟨by repeat (first|(with_reducible first|exact HB.out|apply below_alloc|apply pw_below_drewN|apply below_drew1|refine below_set ?_ GE127.out)|exact HB.out)⟩⟩
 case rest =>
  clear HC2
  try clear c1
  try clear p2
  try clear c4
  try clear c4b0
  try clear c4b1
  try clear c6
  try clear c6b0
  try clear c8
  try clear c8b0
  try clear c10
  try clear hcz10_0
  try clear hcz10_1
  try clear hcz10_2
  try clear hcz5_0
  try clear hcz5_1
  try clear hcz5_2
  try clear hcz7_0
  try clear hcz7_1
  try clear hcz7_2
  try clear hcz9_0
  try clear hcz9_1
  try clear hcz9_2
  try clear hfz10_0
  try clear hfz10_1
  try clear hfz10_2
  try clear hfz5_0
  try clear hfz5_1
  try clear hfz5_2
  try clear hfz7_0
  try clear hfz7_1
  try clear hfz7_2
  try clear hfz9_0
  try clear hfz9_1
  try clear hfz9_2
  obtain ⟨kq,x7_1,rfl,HA,HJ1,BK127,HB⟩:=hcut
  cases kq with
  | zero => exact absurd HA.out (by simp [page_Write.j0])
  | succ kj1 =>
   have H:=HA.out
   clear HA
   simp only [page_Write.j0] at H
   by_cases c11 : x7_1 = true
   ·subst c11
    have H1 : (some ((⟨#[]⟩ : ByteArray),1)) = some (r1,r2):=by rw [if_pos rfl] at H;exact H
    clear H
    have H:=H1
    clear H1
    simp only [Option.some.injEq,Prod.mk.injEq] at H
    obtain ⟨rfl,rfl⟩:=H
    go_wp2
    go_ret2
    exact ⟨by first|rfl|(simp [errW_none,errW_some] <;> rfl)|(simp [*,errW_none,errW_some] <;> rfl),by repeat (first|(with_reducible first|exact HB.out|apply below_alloc|apply pw_below_drewN|apply below_drew1|refine below_set ?_ GE127.out)|exact HB.out)⟩
   ·replace c11:=Bool.eq_false_iff.mpr c11
    subst c11
    have H1 : ((api_Entry_33.f kj1 l0_2 0).bind fun t128 => (if t128 = true then (page_Write.j1 kj1 true a0_0 a0_1 l0_2) else ((page_Size.f kj1 l0_2).bind fun t129 => (page_Write.j1 kj1 (decide (t129 > 507)) a0_0 a0_1 l0_2)))) = some (r1,r2):=by rw [if_neg (show ¬ (false = true) by decide)] at H;exact H
    clear H
    have H:=H1
    clear H1
    have HC12:=Aside0.mk H
    clear H
    go_upto_region 3 with (fail)
    go_cut [26] (fun v26 wc => ∃ (kq : Nat) (x26_11 : Bool),v26 = .bool x26_11 ∧ Aside0 (page_Write.j1 kq x26_11 a0_0 a0_1 l0_2 = some (r1,r2)) ∧ Aside0 (kq ≤ kj1) ∧ Aside0 (wc.heap[gb127]? = some (.cells #[.int .i64 a0_0,.int .i64 a0_1,(.slice A0_2 l0_2.length c0_2)] 28 (0,0))) ∧ Aside0 (Below w.heap.size w wc))
    case first =>
     have H:=HC12.out
     clear HC12
     replace H:=Option.bind_eq_some_iff.mp H
     obtain ⟨t128,A130,H⟩:=H
     replace H : (if t128 = true then (page_Write.j1 kj1 true a0_0 a0_1 l0_2) else ((page_Size.f kj1 l0_2).bind fun t129 => (page_Write.j1 kj1 (decide (t129 > 507)) a0_0 a0_1 l0_2))) = some (r1,r2):=H
     have A13:=Aside0.mk A130
     clear A130
     by_cases c14 : t128 = true
     ·subst c14
      have H1 : (page_Write.j1 kj1 true a0_0 a0_1 l0_2) = some (r1,r2):=by rw [if_pos rfl] at H;exact H
      clear H
      have H:=H1
      clear H1
      have H':=Aside0.mk H
      clear H
      have hcz15_0 : wc.cell? ⟨gb127,0,none⟩ = some (.int .i64 a0_0):=(blk_cell BK127.out 0).trans rfl
      have hcz15_1 : wc.cell? ⟨gb127,1,none⟩ = some (.int .i64 a0_1):=(blk_cell BK127.out 1).trans rfl
      have hcz15_2 : wc.cell? ⟨gb127,2,none⟩ = some (.slice A0_2 l0_2.length c0_2):=(blk_cell BK127.out 2).trans rfl
      have hfz15_0:=blk_frozen BK127.out 0
      have hfz15_1:=blk_frozen BK127.out 1
      have hfz15_2:=blk_frozen BK127.out 2
      go_wp2_with (first|((with_reducible refine gate_callee (f:=33) rfl ?_);refine goesL_ (some 29) rfl rfl Try.func33 (by kernel_rfl) rfl #[.slice A0_2 l0_2.length c0_2,.func (.func 34) #[] #[]] rfl (by (try simp only [List.map_toArray,List.map_cons,List.map_nil]);first|done|rfl|(simp only [List.length_drop,List.length_take];rfl)) ?_;(with_reducible refine (api_Entry_33.calls kj1 _ _ l0_2 0 true _ ?side1 ?side2 A13.out).mono ?_);(case side1 => repeat (first|exact (Kd.C_below HR0_2.out HB.out)|(with_reducible refine Kd.C_alloc ?_ _)|(with_reducible refine Kd.C_drewN ?_ _)|(with_reducible refine Kd.C_drew ?_)));(case side2 => exact HC0_2.out);rintro e w16 ⟨rfl,hb⟩;refine ⟨_,rfl,?_⟩;have n0_:=Aside0.mk (blk_below (g:=gb127) (o:=.cells #[.int .i64 a0_0,.int .i64 a0_1,.slice A0_2 l0_2.length c0_2] 28 (0,0)) (by (with_reducible repeat (first|refine blk_drewN ?_ _|refine blk_drew ?_|refine blk_alloc ?_ _));exact BK127.out) hb);have n1_:=Aside0.mk (below_step (by repeat (first|(with_reducible first|exact HB.out|apply below_alloc|apply pw_below_drewN|apply below_drew1|refine below_set ?_ GE127.out)|exact HB.out)) hb);clear BK127;clear HB;have BK127:=n0_;have HB:=n1_;clear n0_ n1_;(try clear hb);(try clear hb2);(try clear hk);(try clear hi)))
      go_meet
      case rel => exact ⟨_,(true),(by first|rfl|(simp;done)|(simp [Go.Proofs.Ytffgodpmmipnkaa.Z.bne_nil,Go.Proofs.Ytffgodpmmipnkaa.Z.beq_nil];done)|(simp [*];done)),H',⟨by have:=HJ1.out;first|omega|exact Nat.le_refl _⟩,⟨by (with_reducible repeat (first|refine blk_drewN ?_ _|refine blk_drew ?_|refine blk_alloc ?_ _));exact BK127.out⟩,⟨by repeat (first|(with_reducible first|exact HB.out|apply below_alloc|apply pw_below_drewN|apply below_drew1|refine below_set ?_ GE127.out)|exact HB.out)⟩⟩
     ·replace c14:=Bool.eq_false_iff.mpr c14
      subst c14
      have H1 : ((page_Size.f kj1 l0_2).bind fun t129 => (page_Write.j1 kj1 (decide (t129 > 507)) a0_0 a0_1 l0_2)) = some (r1,r2):=by rw [if_neg (show ¬ (false = true) by decide)] at H;exact H
      clear H
      have H:=H1
      clear H1
      replace H:=Option.bind_eq_some_iff.mp H
      obtain ⟨t129,A170,H⟩:=H
      replace H : (page_Write.j1 kj1 (decide (t129 > 507)) a0_0 a0_1 l0_2) = some (r1,r2):=H
      have A17:=Aside0.mk A170
      clear A170
      have H':=Aside0.mk H
      clear H
      have hcz18_0 : wc.cell? ⟨gb127,0,none⟩ = some (.int .i64 a0_0):=(blk_cell BK127.out 0).trans rfl
      have hcz18_1 : wc.cell? ⟨gb127,1,none⟩ = some (.int .i64 a0_1):=(blk_cell BK127.out 1).trans rfl
      have hcz18_2 : wc.cell? ⟨gb127,2,none⟩ = some (.slice A0_2 l0_2.length c0_2):=(blk_cell BK127.out 2).trans rfl
      have hfz18_0:=blk_frozen BK127.out 0
      have hfz18_1:=blk_frozen BK127.out 1
      have hfz18_2:=blk_frozen BK127.out 2
      go_wp2_with (first|((with_reducible refine gate_callee (f:=33) rfl ?_);refine goesL_ (some 29) rfl rfl Try.func33 (by kernel_rfl) rfl #[.slice A0_2 l0_2.length c0_2,.func (.func 34) #[] #[]] rfl (by (try simp only [List.map_toArray,List.map_cons,List.map_nil]);first|done|rfl|(simp only [List.length_drop,List.length_take];rfl)) ?_;(with_reducible refine (api_Entry_33.calls kj1 _ _ l0_2 0 false _ ?side1 ?side2 A13.out).mono ?_);(case side1 => repeat (first|exact (Kd.C_below HR0_2.out HB.out)|(with_reducible refine Kd.C_alloc ?_ _)|(with_reducible refine Kd.C_drewN ?_ _)|(with_reducible refine Kd.C_drew ?_)));(case side2 => exact HC0_2.out);rintro e w19 ⟨rfl,hb⟩;refine ⟨_,rfl,?_⟩;have n0_:=Aside0.mk (blk_below (g:=gb127) (o:=.cells #[.int .i64 a0_0,.int .i64 a0_1,.slice A0_2 l0_2.length c0_2] 28 (0,0)) (by (with_reducible repeat (first|refine blk_drewN ?_ _|refine blk_drew ?_|refine blk_alloc ?_ _));exact BK127.out) hb);have n1_:=Aside0.mk (below_step (by repeat (first|(with_reducible first|exact HB.out|apply below_alloc|apply pw_below_drewN|apply below_drew1|refine below_set ?_ GE127.out)|exact HB.out)) hb);clear BK127;clear HB;have BK127:=n0_;have HB:=n1_;clear n0_ n1_;(try clear hb);(try clear hb2);(try clear hk);(try clear hi);have hcz20_0 : w19.cell? ⟨gb127,0,none⟩ = some (.int .i64 a0_0):=(blk_cell BK127.out 0).trans rfl;have hcz20_1 : w19.cell? ⟨gb127,1,none⟩ = some (.int .i64 a0_1):=(blk_cell BK127.out 1).trans rfl;have hcz20_2 : w19.cell? ⟨gb127,2,none⟩ = some (.slice A0_2 l0_2.length c0_2):=(blk_cell BK127.out 2).trans rfl;have hfz20_0:=blk_frozen BK127.out 0;have hfz20_1:=blk_frozen BK127.out 1;have hfz20_2:=blk_frozen BK127.out 2)|(go_at_call 16;(with_reducible refine (page_Size.calls kj1 _ _ l0_2 t129 _ ?side1 ?side2 A17.out).mono ?_);(case side1 => repeat (first|exact (Kd.C_below HR0_2.out HB.out)|(with_reducible refine Kd.C_alloc ?_ _)|(with_reducible refine Kd.C_drewN ?_ _)|(with_reducible refine Kd.C_drew ?_)));(case side2 => exact HC0_2.out);rintro e w21 ⟨rfl,hb⟩;have n0_:=Aside0.mk (blk_below (g:=gb127) (o:=.cells #[.int .i64 a0_0,.int .i64 a0_1,.slice A0_2 l0_2.length c0_2] 28 (0,0)) (by (with_reducible repeat (first|refine blk_drewN ?_ _|refine blk_drew ?_|refine blk_alloc ?_ _));exact BK127.out) hb);have n1_:=Aside0.mk (below_step (by repeat (first|(with_reducible first|exact HB.out|apply below_alloc|apply pw_below_drewN|apply below_drew1|refine below_set ?_ GE127.out)|exact HB.out)) hb);clear BK127;clear HB;have BK127:=n0_;have HB:=n1_;clear n0_ n1_;(try clear hb);(try clear hb2);(try clear hk);(try clear hi)))
      go_meet
      case rel => exact ⟨_,(decide (t129 > 507)),(by first|rfl|(simp;done)|(simp [Go.Proofs.Ytffgodpmmipnkaa.Z.bne_nil,Go.Proofs.Ytffgodpmmipnkaa.Z.beq_nil];done)|(simp [*];done)),H',⟨by have:=HJ1.out;first|omega|exact Nat.le_refl _⟩,⟨by (with_reducible repeat (first|refine blk_drewN ?_ _|refine blk_drew ?_|refine blk_alloc ?_ _));exact BK127.out⟩,⟨by repeat (first|(with_reducible first|exact HB.out|apply below_alloc|apply pw_below_drewN|apply below_drew1|refine below_set ?_ GE127.out)|exact HB.out)⟩⟩
    case rest =>
     clear HC12
     try clear c1
     try clear p2
     try clear c3
     try clear c4
     try clear c4b0
     try clear c4b1
     try clear c6
     try clear c6b0
     try clear c8
     try clear c8b0
     try clear c10
     try clear c11
     try clear c14
     try clear hcz10_0
     try clear hcz10_1
     try clear hcz10_2
     try clear hcz15_0
     try clear hcz15_1
     try clear hcz15_2
     try clear hcz18_0
     try clear hcz18_1
     try clear hcz18_2
     try clear hcz20_0
     try clear hcz20_1
     try clear hcz20_2
     try clear hcz5_0
     try clear hcz5_1
     try clear hcz5_2
     try clear hcz7_0
     try clear hcz7_1
     try clear hcz7_2
     try clear hcz9_0
     try clear hcz9_1
     try clear hcz9_2
     try clear hfz10_0
     try clear hfz10_1
     try clear hfz10_2
     try clear hfz15_0
     try clear hfz15_1
     try clear hfz15_2
     try clear hfz18_0
     try clear hfz18_1
     try clear hfz18_2
     try clear hfz20_0
     try clear hfz20_1
     try clear hfz20_2
     try clear hfz5_0
     try clear hfz5_1
     try clear hfz5_2
     try clear hfz7_0
     try clear hfz7_1
     try clear hfz7_2
     try clear hfz9_0
     try clear hfz9_1
     try clear hfz9_2
     try clear p2
     obtain ⟨kq,x26_11,rfl,HA,HJ11,BK127,HB⟩:=hcut
     cases kq with
     | zero => exact absurd HA.out (by simp [page_Write.j1])
     | succ kj11 =>
      have H:=HA.out
      clear HA
      simp only [page_Write.j1] at H
      by_cases c22 : x26_11 = true
      ·subst c22
       have H1 : (some ((⟨#[]⟩ : ByteArray),3)) = some (r1,r2):=by rw [if_pos rfl] at H;exact H
       clear H
       have H:=H1
       clear H1
       simp only [Option.some.injEq,Prod.mk.injEq] at H
       obtain ⟨rfl,rfl⟩:=H
       go_wp2
       go_ret2
       exact ⟨by first|rfl|(simp [errW_none,errW_some] <;> rfl)|(simp [*,errW_none,errW_some] <;> rfl),by repeat (first|(with_reducible first|exact HB.out|apply below_alloc|apply pw_below_drewN|apply below_drew1|refine below_set ?_ GE127.out)|exact HB.out)⟩
      ·replace c22:=Bool.eq_false_iff.mpr c22
       subst c22
       have H1 : ((page_sorted.f kj11 l0_2).bind fun t130 => (if t130 = true then (if 0 ≤ 281474976710656 then ((some (List.replicate 0 0 : List Int)).bind fun y131 => ((some (([(a0_0) % 256,(a0_1 / 256) % 256,(a0_1) % 256,((l0_2.length : Int) / 256) % 256,((l0_2.length : Int)) % 256] : List Int) : List Int)).bind fun y134 => (if y131.length + y134.length < 140737488355328 then (page_Write.l0 kj11 (y131 ++ y134) l0_2 (l0_2.length : Int) 0) else (none)))) else (none)) else (some ((⟨#[]⟩ : ByteArray),4)))) = some (r1,r2):=by rw [if_neg (show ¬ (false = true) by decide)] at H;exact H
       clear H
       have H:=H1
       clear H1
       replace H:=Option.bind_eq_some_iff.mp H
       obtain ⟨t130,A230,H⟩:=H
       replace H : (if t130 = true then (if 0 ≤ 281474976710656 then ((some (List.replicate 0 0 : List Int)).bind fun y131 => ((some (([(a0_0) % 256,(a0_1 / 256) % 256,(a0_1) % 256,((l0_2.length : Int) / 256) % 256,((l0_2.length : Int)) % 256] : List Int) : List Int)).bind fun y134 => (if y131.length + y134.length < 140737488355328 then (page_Write.l0 kj11 (y131 ++ y134) l0_2 (l0_2.length : Int) 0) else (none)))) else (none)) else (some ((⟨#[]⟩ : ByteArray),4))) = some (r1,r2):=H
       have A23:=Aside0.mk A230
       clear A230
       by_cases c24 : t130 = true
       ·subst c24
        have H1 : (if 0 ≤ 281474976710656 then ((some (List.replicate 0 0 : List Int)).bind fun y131 => ((some (([(a0_0) % 256,(a0_1 / 256) % 256,(a0_1) % 256,((l0_2.length : Int) / 256) % 256,((l0_2.length : Int)) % 256] : List Int) : List Int)).bind fun y134 => (if y131.length + y134.length < 140737488355328 then (page_Write.l0 kj11 (y131 ++ y134) l0_2 (l0_2.length : Int) 0) else (none)))) else (none)) = some (r1,r2):=by rw [if_pos rfl] at H;exact H
        clear H
        have H:=H1
        clear H1
        by_cases c25 : 0 ≤ 281474976710656
        ·rw [if_pos c25] at H
         have c25b0:=eq_true c25
         have c25b1 : decide (0 ≤ 281474976710656) = true:=decide_eq_true c25
         clear c25
         obtain ⟨y131,hy131⟩ : ∃ y_ : List Int,y_ = (List.replicate 0 0):=⟨_,rfl⟩
         replace H : ((some (([(a0_0) % 256,(a0_1 / 256) % 256,(a0_1) % 256,((l0_2.length : Int) / 256) % 256,((l0_2.length : Int)) % 256] : List Int) : List Int)).bind fun y134 => (if y131.length + y134.length < 140737488355328 then (page_Write.l0 kj11 (y131 ++ y134) l0_2 (l0_2.length : Int) 0) else (none))) = some (r1,r2):=by first|(rw [hy131];with_reducible exact H)|(have H2_:=(Option.bind_some _ _).symm.trans H;rw [hy131];with_reducible exact H2_)|(have H2_:=(Option.bind_some _ _).symm.trans H;with_reducible exact H2_)|with_reducible exact H|(rw [hy131];exact H)|exact H
         have Ny131:=Aside0.mk hy131
         clear hy131
         obtain ⟨y134,hy134⟩ : ∃ y_ : List Int,y_ = (([(a0_0) % 256,(a0_1 / 256) % 256,(a0_1) % 256,((l0_2.length : Int) / 256) % 256,((l0_2.length : Int)) % 256] : List Int)):=⟨_,rfl⟩
         replace H : (if y131.length + y134.length < 140737488355328 then (page_Write.l0 kj11 (y131 ++ y134) l0_2 (l0_2.length : Int) 0) else (none)) = some (r1,r2):=by first|(rw [hy134];with_reducible exact H)|(have H2_:=(Option.bind_some _ _).symm.trans H;rw [hy134];with_reducible exact H2_)|(have H2_:=(Option.bind_some _ _).symm.trans H;with_reducible exact H2_)|with_reducible exact H|(rw [hy134];exact H)|exact H
         have Ny134:=Aside0.mk hy134
         clear hy134
         by_cases c26 : y131.length + y134.length < 140737488355328
         ·rw [if_pos c26] at H
          have LMc26:=Aside0.mk c26
          clear c26
          obtain ⟨y137,hy137⟩ : ∃ y_ : List Int,y_ = (y131 ++ y134):=⟨_,rfl⟩
          replace H : (page_Write.l0 kj11 y137 l0_2 (l0_2.length : Int) 0) = some (r1,r2):=by first|(rw [hy137];with_reducible exact H)|(have H2_:=(Option.bind_some _ _).symm.trans H;rw [hy137];with_reducible exact H2_)|(have H2_:=(Option.bind_some _ _).symm.trans H;with_reducible exact H2_)|with_reducible exact H|(rw [hy137];exact H)|exact H
          have Ny137:=Aside0.mk hy137
          clear hy137
          have H':=Aside0.mk H
          clear H
          have hcz27_0 : wc.cell? ⟨gb127,0,none⟩ = some (.int .i64 a0_0):=(blk_cell BK127.out 0).trans rfl
          have hcz27_1 : wc.cell? ⟨gb127,1,none⟩ = some (.int .i64 a0_1):=(blk_cell BK127.out 1).trans rfl
          have hcz27_2 : wc.cell? ⟨gb127,2,none⟩ = some (.slice A0_2 l0_2.length c0_2):=(blk_cell BK127.out 2).trans rfl
          have hfz27_0:=blk_frozen BK127.out 0
          have hfz27_1:=blk_frozen BK127.out 1
          have hfz27_2:=blk_frozen BK127.out 2
          go_wp2_with (first|((with_reducible refine gate_callee (f:=35) rfl ?_);refine goesL_ (some 39) rfl rfl Try.func35 (by kernel_rfl) rfl #[.slice A0_2 l0_2.length c0_2] rfl (by (try simp only [List.map_toArray,List.map_cons,List.map_nil]);first|done|rfl|(simp only [List.length_drop,List.length_take];rfl)) ?_;(with_reducible refine (page_sorted.calls kj11 _ _ l0_2 true _ ?side1 ?side2 A23.out).mono ?_);(case side1 => repeat (first|exact (Kd.C_below HR0_2.out HB.out)|(with_reducible refine Kd.C_alloc ?_ _)|(with_reducible refine Kd.C_drewN ?_ _)|(with_reducible refine Kd.C_drew ?_)));(case side2 => exact HC0_2.out);rintro e w' ⟨rfl,⟨nd,rfl⟩⟩;refine ⟨_,rfl,?_⟩)|((with_reducible refine gate_dst (N:=41) rfl ?_);refine Go.Proofs.Ytffgodpmmipnkaa.Z.R_make0 (Kd.int .u8) _ 5 rfl (N:=41) rfl 63 _ _ rfl 512 rfl rfl Try.underlying63 (.int .u8 0) 1 info5 rfl (by decide) (by omega) 0 (ok:=fun _ => True) (okp:=fun _ => True) rfl (fun _ hk => hk) trivial (by omega) (by omega) (Below.refl _ _) (Nat.le_refl _) ?_;intro v132 w28 ho29 hb hg_ hnew_;clear hg_ hnew_;(first|rw [← Ny131.out] at ho29|(simp only [Int.reduceToNat] at ho29;rw [← Ny131.out] at ho29));have n0_:=Aside0.mk (Kd.R_lower ho29 (below_size (by repeat (first|(with_reducible first|exact HB.out|apply below_alloc|apply pw_below_drewN|apply below_drew1|refine below_set ?_ GE127.out)|exact HB.out))));have n1_:=Aside0.mk (blk_below (g:=gb127) (o:=.cells #[.int .i64 a0_0,.int .i64 a0_1,.slice A0_2 l0_2.length c0_2] 28 (0,0)) (by (with_reducible repeat (first|refine blk_drewN ?_ _|refine blk_drew ?_|refine blk_alloc ?_ _));exact BK127.out) hb);have n2_:=Aside0.mk (below_step (by repeat (first|(with_reducible first|exact HB.out|apply below_alloc|apply pw_below_drewN|apply below_drew1|refine below_set ?_ GE127.out)|exact HB.out)) hb);clear BK127;clear HB;have HO133:=n0_;have BK127:=n1_;have HB:=n2_;clear n0_ n1_ n2_;clear hb ho29;have hcz30_0 : w28.cell? ⟨gb127,0,none⟩ = some (.int .i64 a0_0):=(blk_cell BK127.out 0).trans rfl;have hcz30_1 : w28.cell? ⟨gb127,1,none⟩ = some (.int .i64 a0_1):=(blk_cell BK127.out 1).trans rfl;have hcz30_2 : w28.cell? ⟨gb127,2,none⟩ = some (.slice A0_2 l0_2.length c0_2):=(blk_cell BK127.out 2).trans rfl;have hfz30_0:=blk_frozen BK127.out 0;have hfz30_1:=blk_frozen BK127.out 1;have hfz30_2:=blk_frozen BK127.out 2)|((with_reducible refine gate_dst (N:=62) rfl ?_);refine Kd.R_lit (Kd.int .u8) _ 5 ?hg (N:=62) ?hd (xs:=([(a0_0) % 256,(a0_1 / 256) % 256,(a0_1) % 256,((l0_2.length : Int) / 256) % 256,((l0_2.length : Int)) % 256] : List Int)) (inner:=[.int .u8 ((a0_0) % 256),.int .u8 ((a0_1 / 256) % 256),.int .u8 ((a0_1) % 256),.int .u8 (((l0_2.length : Int) / 256) % 256),.int .u8 (((l0_2.length : Int)) % 256)]) (ok:=fun _ => True) (okp:=fun _ => True) ?hr ?hp (fun _ hk => hk) trivial (Below.refl _ _) (Nat.le_refl _) (by simp) ?_;(case hd => rfl);(case hg => rfl);(case hr => first|(go_simp;done)|(go_simp;rfl));(case hp => exact (Reps.one (show Kd.M (Kd.int .u8) _ _ _ ((a0_0) % 256) [.int .u8 ((a0_0) % 256)] from rfl) (Reps.one (show Kd.M (Kd.int .u8) _ _ _ ((a0_1 / 256) % 256) [.int .u8 ((a0_1 / 256) % 256)] from rfl) (Reps.one (show Kd.M (Kd.int .u8) _ _ _ ((a0_1) % 256) [.int .u8 ((a0_1) % 256)] from rfl) (Reps.one (show Kd.M (Kd.int .u8) _ _ _ (((l0_2.length : Int) / 256) % 256) [.int .u8 (((l0_2.length : Int) / 256) % 256)] from rfl) (Reps.one (show Kd.M (Kd.int .u8) _ _ _ (((l0_2.length : Int)) % 256) [.int .u8 (((l0_2.length : Int)) % 256)] from rfl) (Reps.none _ _)))))));intro v135 w31 ho32 hb hg_ hnew_;clear hg_ hnew_;(first|rw [← Ny134.out] at ho32|(simp only [Int.reduceToNat] at ho32;rw [← Ny134.out] at ho32));have n0_:=Aside0.mk (Kd.R_elder' (by (with_reducible repeat (first|apply Kd.R_alloc|apply Kd.R_drewN|apply Kd.R_drew));exact HO133.out) (Kd.R_base ho32) hb);have n1_:=Aside0.mk (Kd.R_lower (Kd.R_new' ho32 (Kd.R_lt (by (with_reducible repeat (first|apply Kd.R_alloc|apply Kd.R_drewN|apply Kd.R_drew));exact HO133.out))) (below_size (by repeat (first|(with_reducible first|exact HB.out|apply below_alloc|apply pw_below_drewN|apply below_drew1|refine below_set ?_ GE127.out)|exact HB.out))));have n2_:=Aside0.mk (blk_below (g:=gb127) (o:=.cells #[.int .i64 a0_0,.int .i64 a0_1,.slice A0_2 l0_2.length c0_2] 28 (0,0)) (by (with_reducible repeat (first|refine blk_drewN ?_ _|refine blk_drew ?_|refine blk_alloc ?_ _));exact BK127.out) hb);have n3_:=Aside0.mk (below_step (by repeat (first|(with_reducible first|exact HB.out|apply below_alloc|apply pw_below_drewN|apply below_drew1|refine below_set ?_ GE127.out)|exact HB.out)) hb);clear HO133;clear BK127;clear HB;have HO133:=n0_;have HO136:=n1_;have BK127:=n2_;have HB:=n3_;clear n0_ n1_ n2_ n3_;clear hb ho32;obtain ⟨Ao34,co34,eo34⟩:=Kd.R_slice HO136.out;subst eo34)|((with_reducible refine gate_builtin (b:=.append) (xs:=#[.tmp 42,.tmp 62]) rfl ?_);at_builtin;refine Kd.R_append_rows (Kd.int .u8) (w0:=w) w.heap.size rfl (.tmp 42) (.tmp 62) 63 5 (.int .u8 0) 1 rfl Try.underlying63 info5 rfl (by decide) (by omega) v132 y131 y134 _ _ _ (fun k_ => some k_ ≠ (.slice Ao34 y134.length co34 : Value).ownBlock) (fun _ => False) rfl rfl ?aO ?aR (fun _ _ h => h) (fun _ h => h.elim) ?aF ?aB ?aS ?aL ?_;(case aR => repeat (first|exact (Kd.R_reads' HO136.out).2.2|(with_reducible refine Kd.C_alloc ?_ _)|(with_reducible refine Kd.C_drewN ?_ _)|(with_reducible refine Kd.C_drew ?_)));(case aB => exact (by repeat (first|(with_reducible first|exact HB.out|apply below_alloc|apply pw_below_drewN|apply below_drew1|refine below_set ?_ GE127.out)|exact HB.out)));(case aF => exact (fun k_ hk => Kd.fresh' (Kd.R_lt (by (with_reducible repeat (first|apply Kd.R_alloc|apply Kd.R_drewN|apply Kd.R_drew));exact HO136.out)) k_ hk));(case aO => exact (by (with_reducible repeat (first|apply Kd.R_alloc|apply Kd.R_drewN|apply Kd.R_drew));exact Kd.R_mono HO133.out (fun _ hk => hk.2)));(case aS => exact (below_size (by repeat (first|(with_reducible first|exact HB.out|apply below_alloc|apply pw_below_drewN|apply below_drew1|refine below_set ?_ GE127.out)|exact HB.out))));(case aL => have:=LMc26.out;omega);intro v138 w33 ho hb hg hat;rw [← Ny137.out] at ho;have n0_:=Aside0.mk (blk_grown (g:=gb127) (o:=.cells #[.int .i64 a0_0,.int .i64 a0_1,.slice A0_2 l0_2.length c0_2] 28 (0,0)) (by (with_reducible repeat (first|refine blk_drewN ?_ _|refine blk_drew ?_|refine blk_alloc ?_ _));exact BK127.out) hg (Kd.R_ne HO133.out BK127.out (by decide)));have n1_:=Aside0.mk (Kd.R_after (ok:=(fun _ => True)) (by (with_reducible repeat (first|apply Kd.R_alloc|apply Kd.R_drewN|apply Kd.R_drew));exact HO136.out) hg hat);have n2_:=Aside0.mk (hb);have n3_:=Aside0.mk (ho);clear BK127;clear HO136;clear HB;clear HO133;have BK127:=n0_;have HO136:=n1_;have HB:=n2_;have HO139:=n3_;clear n0_ n1_ n2_ n3_;clear ho hb hg hat;have hcz35_0 : w33.cell? ⟨gb127,0,none⟩ = some (.int .i64 a0_0):=(blk_cell BK127.out 0).trans rfl;have hcz35_1 : w33.cell? ⟨gb127,1,none⟩ = some (.int .i64 a0_1):=(blk_cell BK127.out 1).trans rfl;have hcz35_2 : w33.cell? ⟨gb127,2,none⟩ = some (.slice A0_2 l0_2.length c0_2):=(blk_cell BK127.out 2).trans rfl;have hfz35_0:=blk_frozen BK127.out 0;have hfz35_1:=blk_frozen BK127.out 1;have hfz35_2:=blk_frozen BK127.out 2))
          go_loopg [4,67] kj11 (fun kq v4 v67 w' => ∃ (x4_3 : List Int) (x67_3 : Int),v67 = .int .i64 x67_3 ∧ Aside0 (page_Write.l0 kq x4_3 l0_2 (l0_2.length : Int) x67_3 = some (r1,r2)) ∧ Aside0 (kq ≤ kj11) ∧ Aside0 (Kd.R (Kd.int .u8) 5 w' w.heap.size (fun _ => True) v4 x4_3) ∧ Aside0 (w'.heap[gb127]? = some (.cells #[.int .i64 a0_0,.int .i64 a0_1,(.slice A0_2 l0_2.length c0_2)] 28 (0,0))) ∧ Aside0 (Below w.heap.size w w'))
          case atStart => exact ⟨(y137),(0),(by first|rfl|(simp;done)|(simp [Go.Proofs.Ytffgodpmmipnkaa.Z.bne_nil,Go.Proofs.Ytffgodpmmipnkaa.Z.beq_nil];done)|(simp [*];done)),H',⟨Nat.le_refl _⟩,⟨by (with_reducible repeat (first|apply Kd.R_alloc|apply Kd.R_drewN|apply Kd.R_drew));exact Kd.R_mono HO139.out (fun _ hk => trivial)⟩,⟨by (with_reducible repeat (first|refine blk_drewN ?_ _|refine blk_drew ?_|refine blk_alloc ?_ _));exact BK127.out⟩,⟨by repeat (first|(with_reducible first|exact HB.out|apply below_alloc|apply pw_below_drewN|apply below_drew1|refine below_set ?_ GE127.out)|exact HB.out)⟩⟩
          case round =>
           clear H'
           try clear c1
           try clear c2
           try clear p2
           try clear c3
           try clear c4
           try clear c4b0
           try clear c4b1
           try clear c6
           try clear c6b0
           try clear c8
           try clear c8b0
           try clear c10
           try clear c11
           try clear c14
           try clear c22
           try clear c24
           try clear c25
           try clear c25b0
           try clear c25b1
           try clear c26
           try clear c33
           try clear c35
           try clear hcz10_0
           try clear hcz10_1
           try clear hcz10_2
           try clear hcz15_0
           try clear hcz15_1
           try clear hcz15_2
           try clear hcz18_0
           try clear hcz18_1
           try clear hcz18_2
           try clear hcz20_0
           try clear hcz20_1
           try clear hcz20_2
           try clear hcz27_0
           try clear hcz27_1
           try clear hcz27_2
           try clear hcz30_0
           try clear hcz30_1
           try clear hcz30_2
           try clear hcz35_0
           try clear hcz35_1
           try clear hcz35_2
           try clear hcz5_0
           try clear hcz5_1
           try clear hcz5_2
           try clear hcz7_0
           try clear hcz7_1
           try clear hcz7_2
           try clear hcz9_0
           try clear hcz9_1
           try clear hcz9_2
           try clear hfz10_0
           try clear hfz10_1
           try clear hfz10_2
           try clear hfz15_0
           try clear hfz15_1
           try clear hfz15_2
           try clear hfz18_0
           try clear hfz18_1
           try clear hfz18_2
           try clear hfz20_0
           try clear hfz20_1
           try clear hfz20_2
           try clear hfz27_0
           try clear hfz27_1
           try clear hfz27_2
           try clear hfz30_0
           try clear hfz30_1
           try clear hfz30_2
           try clear hfz35_0
           try clear hfz35_1
           try clear hfz35_2
           try clear hfz5_0
           try clear hfz5_1
           try clear hfz5_2
           try clear hfz7_0
           try clear hfz7_1
           try clear hfz7_2
           try clear hfz9_0
           try clear hfz9_1
           try clear hfz9_2
           try clear p2
           obtain ⟨x4_3,x67_3,rfl,HA,HK3,HO_4,BK127,HB⟩:=hrel
           cases gk with
           | zero => exact absurd HA.out (by simp [page_Write.l0])
           | succ k3 =>
            have H:=HA.out
            clear HA
            simp only [page_Write.l0] at H
            by_cases c36 : x67_3 < (l0_2.length : Int)
            ·rw [if_pos c36] at H
             have c36b0 : decide (x67_3 < (l0_2.length : Int)) = true:=decide_eq_true c36
             clear c36
             by_cases c37 : 0 ≤ x67_3
             ·rw [if_pos c37] at H
              have c37b0 : decide (0 ≤ x67_3) = true:=decide_eq_true c37
              clear c37
              by_cases c38 : x67_3 < (l0_2.length : Int)
              ·rw [if_pos c38] at H
               have c38b0 : decide (x67_3 < (l0_2.length : Int)) = true:=decide_eq_true c38
               clear c38
               obtain ⟨y142,hy142⟩ : ∃ y_ : List Int,y_ = (([((((rd_T37 l0_2 x67_3).f0).size : Int)) % 256,((((rd_T37 l0_2 x67_3).f1).size : Int)) % 256] : List Int)):=⟨_,rfl⟩
               replace H : (if x4_3.length + y142.length < 140737488355328 then ((some (x4_3 ++ y142 : List Int)).bind fun y145 => (if y145.length + ((rd_T37 l0_2 x67_3).f0).size < 140737488355328 then ((some (y145 ++ bytesOf ((rd_T37 l0_2 x67_3).f0) : List Int)).bind fun y148 => (if y148.length + ((rd_T37 l0_2 x67_3).f1).size < 140737488355328 then (page_Write.l0 k3 (y148 ++ bytesOf ((rd_T37 l0_2 x67_3).f1)) l0_2 (l0_2.length : Int) (wrap64 (x67_3 + 1))) else (none))) else (none))) else (none)) = some (r1,r2):=by first|(rw [hy142];with_reducible exact H)|(have H2_:=(Option.bind_some _ _).symm.trans H;rw [hy142];with_reducible exact H2_)|(have H2_:=(Option.bind_some _ _).symm.trans H;with_reducible exact H2_)|with_reducible exact H|(rw [hy142];exact H)|exact H
               have Ny142:=Aside0.mk hy142
               clear hy142
               by_cases c39 : x4_3.length + y142.length < 140737488355328
               ·rw [if_pos c39] at H
                have LMc39:=Aside0.mk c39
                clear c39
                obtain ⟨y145,hy145⟩ : ∃ y_ : List Int,y_ = (x4_3 ++ y142):=⟨_,rfl⟩
                replace H : (if y145.length + ((rd_T37 l0_2 x67_3).f0).size < 140737488355328 then ((some (y145 ++ bytesOf ((rd_T37 l0_2 x67_3).f0) : List Int)).bind fun y148 => (if y148.length + ((rd_T37 l0_2 x67_3).f1).size < 140737488355328 then (page_Write.l0 k3 (y148 ++ bytesOf ((rd_T37 l0_2 x67_3).f1)) l0_2 (l0_2.length : Int) (wrap64 (x67_3 + 1))) else (none))) else (none)) = some (r1,r2):=by first|(rw [hy145];with_reducible exact H)|(have H2_:=(Option.bind_some _ _).symm.trans H;rw [hy145];with_reducible exact H2_)|(have H2_:=(Option.bind_some _ _).symm.trans H;with_reducible exact H2_)|with_reducible exact H|(rw [hy145];exact H)|exact H
                have Ny145:=Aside0.mk hy145
                clear hy145
                by_cases c40 : y145.length + ((rd_T37 l0_2 x67_3).f0).size < 140737488355328
                ·rw [if_pos c40] at H
                 have LMc40:=Aside0.mk c40
                 clear c40
                 obtain ⟨y148,hy148⟩ : ∃ y_ : List Int,y_ = (y145 ++ bytesOf ((rd_T37 l0_2 x67_3).f0)):=⟨_,rfl⟩
                 replace H : (if y148.length + ((rd_T37 l0_2 x67_3).f1).size < 140737488355328 then (page_Write.l0 k3 (y148 ++ bytesOf ((rd_T37 l0_2 x67_3).f1)) l0_2 (l0_2.length : Int) (wrap64 (x67_3 + 1))) else (none)) = some (r1,r2):=by first|(rw [hy148];with_reducible exact H)|(have H2_:=(Option.bind_some _ _).symm.trans H;rw [hy148];with_reducible exact H2_)|(have H2_:=(Option.bind_some _ _).symm.trans H;with_reducible exact H2_)|with_reducible exact H|(rw [hy148];exact H)|exact H
                 have Ny148:=Aside0.mk hy148
                 clear hy148
                 by_cases c41 : y148.length + ((rd_T37 l0_2 x67_3).f1).size < 140737488355328
                 ·rw [if_pos c41] at H
                  have LMc41:=Aside0.mk c41
                  clear c41
                  obtain ⟨y151,hy151⟩ : ∃ y_ : List Int,y_ = (y148 ++ bytesOf ((rd_T37 l0_2 x67_3).f1)):=⟨_,rfl⟩
                  replace H : (page_Write.l0 k3 y151 l0_2 (l0_2.length : Int) (wrap64 (x67_3 + 1))) = some (r1,r2):=by first|(rw [hy151];with_reducible exact H)|(have H2_:=(Option.bind_some _ _).symm.trans H;rw [hy151];with_reducible exact H2_)|(have H2_:=(Option.bind_some _ _).symm.trans H;with_reducible exact H2_)|with_reducible exact H|(rw [hy151];exact H)|exact H
                  have Ny151:=Aside0.mk hy151
                  clear hy151
                  have H':=Aside0.mk H
                  clear H
                  have p140 : 0 ≤ (x67_3 : Int):=of_decide_eq_true (by first|(with_reducible assumption)|assumption)
                  have q140 : x67_3 < (l0_2.length : Int):=of_decide_eq_true (by first|(with_reducible assumption)|assumption)
                  obtain ⟨ad140,e140,hx140_0,hx140_1⟩:=at_T37 HR0_2.out x67_3 p140 q140
                  cases e140
                  replace hx140_0:=(HB.out.cell (World.block_lt_of_cell? w _ hx140_0)).trans hx140_0
                  replace hx140_1:=(HB.out.cell (World.block_lt_of_cell? w _ hx140_1)).trans hx140_1
                  replace p140:=eq_true p140
                  replace q140:=eq_true q140
                  go_wp2_with (first|((with_reducible refine gate_dst (N:=6) rfl ?_);refine box_event ?hg (N:=6) ?hd (cs:=#[.string (⟨#[]⟩ : ByteArray),.string (⟨#[]⟩ : ByteArray)]) (t:=37) ?hr ?_;(case hd => rfl);(case hg => rfl);(case hr => first|(go_simp;done)|(go_simp;rfl));intro gb141 hg w42 hbox hb;have n0_:=Aside0.mk (Kd.R_below (by (with_reducible repeat (first|apply Kd.R_alloc|apply Kd.R_drewN|apply Kd.R_drew));exact HO_4.out) hb);have n1_:=Aside0.mk (blk_below (g:=gb127) (o:=.cells #[.int .i64 a0_0,.int .i64 a0_1,.slice (some ad140) l0_2.length c0_2] 28 (0,0)) (by (with_reducible repeat (first|refine blk_drewN ?_ _|refine blk_drew ?_|refine blk_alloc ?_ _));exact BK127.out) hb);have n2_:=Aside0.mk (below_step (by repeat (first|(with_reducible first|exact HB.out|apply below_alloc|apply pw_below_drewN|apply below_drew1|refine below_set ?_ GE127.out)|exact HB.out)) hb);have n3_:=Aside0.mk (hbox);have n4_:=Aside0.mk ((by rw [hg];exact (below_size (by repeat (first|(with_reducible first|exact HB.out|apply below_alloc|apply pw_below_drewN|apply below_drew1|refine below_set ?_ GE127.out)|exact HB.out))) : w.heap.size ≤ gb141));have n5_:=Aside0.mk ((by rw [hg];exact (below_size (by repeat (first|(with_reducible first|exact HB.out|apply below_alloc|apply pw_below_drewN|apply below_drew1|refine below_set ?_ GE127.out)|exact HB.out))) : w.heap.size ≤ gb141));have n6_:=Aside0.mk ((by rw [hg];exact Nat.ne_of_lt (blk_lt (g:=gb127) (o:=.cells #[.int .i64 a0_0,.int .i64 a0_1,.slice (some ad140) l0_2.length c0_2] 28 (0,0)) (by (with_reducible repeat (first|refine blk_drewN ?_ _|refine blk_drew ?_|refine blk_alloc ?_ _));exact BK127.out)) : gb127 ≠ gb141));have n7_:=Aside0.mk ((by rw [hg];exact Nat.ne_of_gt (blk_lt (g:=gb127) (o:=.cells #[.int .i64 a0_0,.int .i64 a0_1,.slice (some ad140) l0_2.length c0_2] 28 (0,0)) (by (with_reducible repeat (first|refine blk_drewN ?_ _|refine blk_drew ?_|refine blk_alloc ?_ _));exact BK127.out)) : gb141 ≠ gb127));clear HO_4;clear BK127;clear HB;have HO_4:=n0_;have BK127:=n1_;have HB:=n2_;have BK141:=n3_;have GW141:=n4_;have GE141:=n5_;have NB127_141:=n6_;have NB141_127:=n7_;clear n0_ n1_ n2_ n3_ n4_ n5_ n6_ n7_;clear hb hbox hg;have hnb43:=NB141_127.out;have hnc43:=NB127_141.out;have hcz44_0 : w42.cell? ⟨gb141,0,none⟩ = some (.string (⟨#[]⟩ : ByteArray)):=(blk_cell BK141.out 0).trans rfl;have hcz44_1 : w42.cell? ⟨gb141,1,none⟩ = some (.string (⟨#[]⟩ : ByteArray)):=(blk_cell BK141.out 1).trans rfl;have hfz44_0:=blk_frozen BK141.out 0;have hfz44_1:=blk_frozen BK141.out 1)|((with_reducible refine gate_dst (N:=80) rfl ?_);refine Kd.R_lit (Kd.int .u8) _ 5 ?hg (N:=80) ?hd (xs:=([((((rd_T37 l0_2 x67_3).f0).size : Int)) % 256,((((rd_T37 l0_2 x67_3).f1).size : Int)) % 256] : List Int)) (inner:=[.int .u8 (((((rd_T37 l0_2 x67_3).f0).size : Int)) % 256),.int .u8 (((((rd_T37 l0_2 x67_3).f1).size : Int)) % 256)]) (ok:=fun _ => True) (okp:=fun _ => True) ?hr ?hp (fun _ hk => hk) trivial (Below.refl _ _) (Nat.le_refl _) (by simp) ?_;(case hd => rfl);(case hg => rfl);(case hr => first|(go_simp;done)|(go_simp;rfl));(case hp => exact (Reps.one (show Kd.M (Kd.int .u8) _ _ _ (((((rd_T37 l0_2 x67_3).f0).size : Int)) % 256) [.int .u8 (((((rd_T37 l0_2 x67_3).f0).size : Int)) % 256)] from rfl) (Reps.one (show Kd.M (Kd.int .u8) _ _ _ (((((rd_T37 l0_2 x67_3).f1).size : Int)) % 256) [.int .u8 (((((rd_T37 l0_2 x67_3).f1).size : Int)) % 256)] from rfl) (Reps.none _ _))));intro v143 w45 ho46 hb hg_ hnew_;clear hg_ hnew_;(first|rw [← Ny142.out] at ho46|(simp only [Int.reduceToNat] at ho46;rw [← Ny142.out] at ho46));have n0_:=Aside0.mk (Kd.R_elder' (by (with_reducible repeat (first|apply Kd.R_alloc|apply Kd.R_drewN|apply Kd.R_drew));exact (Kd.R_mono (Kd.R_far (p:=⟨gb141,1,none⟩) (Kd.R_far (p:=⟨gb141,0,none⟩) (Kd.R_types HO_4.out BK141.out (by decide)) (fun _ hk => hk.2) (.string ((rd_T37 l0_2 x67_3).f0))) (fun _ hk => hk.2) (.string ((rd_T37 l0_2 x67_3).f1))) (fun _ h_ => h_.1))) (Kd.R_base ho46) hb);have n1_:=Aside0.mk (Kd.R_lower (Kd.R_new' ho46 (Kd.R_lt (by (with_reducible repeat (first|apply Kd.R_alloc|apply Kd.R_drewN|apply Kd.R_drew));exact (Kd.R_mono (Kd.R_far (p:=⟨gb141,1,none⟩) (Kd.R_far (p:=⟨gb141,0,none⟩) (Kd.R_types HO_4.out BK141.out (by decide)) (fun _ hk => hk.2) (.string ((rd_T37 l0_2 x67_3).f0))) (fun _ hk => hk.2) (.string ((rd_T37 l0_2 x67_3).f1))) (fun _ h_ => h_.1))))) (below_size (by repeat (first|(with_reducible first|exact HB.out|apply below_alloc|apply pw_below_drewN|apply below_drew1|refine below_set ?_ GE127.out|refine below_set ?_ GE141.out)|exact HB.out))));have n2_:=Aside0.mk (blk_below (g:=gb127) (o:=.cells #[.int .i64 a0_0,.int .i64 a0_1,.slice (some ad140) l0_2.length c0_2] 28 (0,0)) (by (with_reducible repeat (first|refine blk_drewN ?_ _|refine blk_drew ?_|refine blk_alloc ?_ _));refine blk_far ?_ NB127_141.out _;(with_reducible repeat (first|refine blk_drewN ?_ _|refine blk_drew ?_|refine blk_alloc ?_ _));refine blk_far ?_ NB127_141.out _;(with_reducible repeat (first|refine blk_drewN ?_ _|refine blk_drew ?_|refine blk_alloc ?_ _));exact BK127.out) hb);have n3_:=Aside0.mk (blk_below (g:=gb141) (o:=.cells #[.string ((rd_T37 l0_2 x67_3).f0),.string ((rd_T37 l0_2 x67_3).f1)] 37 (0,0)) (by (with_reducible repeat (first|refine blk_drewN ?_ _|refine blk_drew ?_|refine blk_alloc ?_ _));refine blk_put (cs:=#[.string ((rd_T37 l0_2 x67_3).f0),.string (⟨#[]⟩ : ByteArray)]) ?_ 1 _ rfl;(with_reducible repeat (first|refine blk_drewN ?_ _|refine blk_drew ?_|refine blk_alloc ?_ _));refine blk_put (cs:=#[.string (⟨#[]⟩ : ByteArray),.string (⟨#[]⟩ : ByteArray)]) ?_ 0 _ rfl;(with_reducible repeat (first|refine blk_drewN ?_ _|refine blk_drew ?_|refine blk_alloc ?_ _));exact BK141.out) hb);have n4_:=Aside0.mk (below_step (by repeat (first|(with_reducible first|exact HB.out|apply below_alloc|apply pw_below_drewN|apply below_drew1|refine below_set ?_ GE127.out|refine below_set ?_ GE141.out)|exact HB.out)) hb);clear HO_4;clear BK127;clear BK141;clear HB;have HO_4:=n0_;have HO144:=n1_;have BK127:=n2_;have BK141:=n3_;have HB:=n4_;clear n0_ n1_ n2_ n3_ n4_;clear hb ho46;obtain ⟨Ao48,co48,eo48⟩:=Kd.R_slice HO144.out;subst eo48)|((with_reducible refine gate_builtin (b:=.append) (xs:=#[.tmp 71,.tmp 80]) rfl ?_);at_builtin;refine Kd.R_append_rows (Kd.int .u8) (w0:=w) w.heap.size rfl (.tmp 71) (.tmp 80) 63 5 (.int .u8 0) 1 rfl Try.underlying63 info5 rfl (by decide) (by omega) u4 x4_3 y142 _ _ _ (fun k_ => some k_ ≠ (.slice Ao48 y142.length co48 : Value).ownBlock) (fun _ => False) rfl rfl ?aO ?aR (fun _ _ h => h) (fun _ h => h.elim) ?aF ?aB ?aS ?aL ?_;(case aR => repeat (first|exact (Kd.R_reads' HO144.out).2.2|(with_reducible refine Kd.C_alloc ?_ _)|(with_reducible refine Kd.C_drewN ?_ _)|(with_reducible refine Kd.C_drew ?_)));(case aB => exact (by repeat (first|(with_reducible first|exact HB.out|apply below_alloc|apply pw_below_drewN|apply below_drew1|refine below_set ?_ GE127.out|refine below_set ?_ GE141.out)|exact HB.out)));(case aF => exact (fun k_ hk => Kd.fresh' (Kd.R_lt (by (with_reducible repeat (first|apply Kd.R_alloc|apply Kd.R_drewN|apply Kd.R_drew));exact HO144.out)) k_ hk));(case aO => exact (by (with_reducible repeat (first|apply Kd.R_alloc|apply Kd.R_drewN|apply Kd.R_drew));exact Kd.R_mono HO_4.out (fun _ hk => hk.2)));(case aS => exact (below_size (by repeat (first|(with_reducible first|exact HB.out|apply below_alloc|apply pw_below_drewN|apply below_drew1|refine below_set ?_ GE127.out|refine below_set ?_ GE141.out)|exact HB.out))));(case aL => have:=LMc39.out;omega);intro v146 w47 ho hb hg hat;rw [← Ny145.out] at ho;have n0_:=Aside0.mk (blk_grown (g:=gb127) (o:=.cells #[.int .i64 a0_0,.int .i64 a0_1,.slice (some ad140) l0_2.length c0_2] 28 (0,0)) (by (with_reducible repeat (first|refine blk_drewN ?_ _|refine blk_drew ?_|refine blk_alloc ?_ _));exact BK127.out) hg (Kd.R_ne HO_4.out BK127.out (by decide)));have n1_:=Aside0.mk (blk_grown (g:=gb141) (o:=.cells #[.string ((rd_T37 l0_2 x67_3).f0),.string ((rd_T37 l0_2 x67_3).f1)] 37 (0,0)) (by (with_reducible repeat (first|refine blk_drewN ?_ _|refine blk_drew ?_|refine blk_alloc ?_ _));exact BK141.out) hg (Kd.R_ne HO_4.out BK141.out (by decide)));have n2_:=Aside0.mk (Kd.R_after (ok:=(fun _ => True)) (by (with_reducible repeat (first|apply Kd.R_alloc|apply Kd.R_drewN|apply Kd.R_drew));exact HO144.out) hg hat);have n3_:=Aside0.mk (hb);have n4_:=Aside0.mk (ho);clear BK127;clear BK141;clear HO144;clear HB;clear HO_4;have BK127:=n0_;have BK141:=n1_;have HO144:=n2_;have HB:=n3_;have HO147:=n4_;clear n0_ n1_ n2_ n3_ n4_;clear ho hb hg hat;have hcz49_0 : w47.cell? ⟨gb141,0,none⟩ = some (.string ((rd_T37 l0_2 x67_3).f0)):=(blk_cell BK141.out 0).trans rfl;have hcz49_1 : w47.cell? ⟨gb141,1,none⟩ = some (.string ((rd_T37 l0_2 x67_3).f1)):=(blk_cell BK141.out 1).trans rfl;have hfz49_0:=blk_frozen BK141.out 0;have hfz49_1:=blk_frozen BK141.out 1)|(at_builtin;refine print_append_str (w0:=w) w.heap.size rfl (.tmp 82) _ 63 9 5 rfl Try.underlying63 Try.underlying9 info5 v146 y145 ((rd_T37 l0_2 x67_3).f0) rfl rfl ?aO ?aB ?aS ?aL ?_;(case aB => exact (by repeat (first|(with_reducible first|exact HB.out|apply below_alloc|apply pw_below_drewN|apply below_drew1|refine below_set ?_ GE127.out|refine below_set ?_ GE141.out)|exact HB.out)));(case aO => exact (Kd.own_of_R (by (with_reducible repeat (first|apply Kd.R_alloc|apply Kd.R_drewN|apply Kd.R_drew));exact Kd.R_mono HO147.out (fun _ hk => trivial))));(case aS => exact (below_size (by repeat (first|(with_reducible first|exact HB.out|apply below_alloc|apply pw_below_drewN|apply below_drew1|refine below_set ?_ GE127.out|refine below_set ?_ GE141.out)|exact HB.out))));(case aL => have:=LMc40.out;omega);intro v149 w50 ho0 hb hg;have ho:=Kd.R_of_own (h1:=fun _ => rfl) (ok:=fun _ => True) ho0 (fun _ _ => trivial);clear ho0;have hat:=True.intro;rw [← Ny148.out] at ho;change Kd.R (Kd.int .u8) 5 w50 w.heap.size (fun _ => True) v149 y148 at ho;have n0_:=Aside0.mk (blk_grown (g:=gb127) (o:=.cells #[.int .i64 a0_0,.int .i64 a0_1,.slice (some ad140) l0_2.length c0_2] 28 (0,0)) (by (with_reducible repeat (first|refine blk_drewN ?_ _|refine blk_drew ?_|refine blk_alloc ?_ _));exact BK127.out) hg (Kd.R_ne HO147.out BK127.out (by decide)));have n1_:=Aside0.mk (blk_grown (g:=gb141) (o:=.cells #[.string ((rd_T37 l0_2 x67_3).f0),.string ((rd_T37 l0_2 x67_3).f1)] 37 (0,0)) (by (with_reducible repeat (first|refine blk_drewN ?_ _|refine blk_drew ?_|refine blk_alloc ?_ _));exact BK141.out) hg (Kd.R_ne HO147.out BK141.out (by decide)));have n2_:=Aside0.mk (hb);have n3_:=Aside0.mk (ho);clear BK127;clear BK141;clear HB;clear HO147;have BK127:=n0_;have BK141:=n1_;have HB:=n2_;have HO150:=n3_;clear n0_ n1_ n2_ n3_;clear ho hb hg hat;have hcz51_0 : w50.cell? ⟨gb141,0,none⟩ = some (.string ((rd_T37 l0_2 x67_3).f0)):=(blk_cell BK141.out 0).trans rfl;have hcz51_1 : w50.cell? ⟨gb141,1,none⟩ = some (.string ((rd_T37 l0_2 x67_3).f1)):=(blk_cell BK141.out 1).trans rfl;have hfz51_0:=blk_frozen BK141.out 0;have hfz51_1:=blk_frozen BK141.out 1)|(at_builtin;refine print_append_str (w0:=w) w.heap.size rfl (.tmp 86) _ 63 9 5 rfl Try.underlying63 Try.underlying9 info5 v149 y148 ((rd_T37 l0_2 x67_3).f1) rfl rfl ?aO ?aB ?aS ?aL ?_;(case aB => exact (by repeat (first|(with_reducible first|exact HB.out|apply below_alloc|apply pw_below_drewN|apply below_drew1|refine below_set ?_ GE127.out|refine below_set ?_ GE141.out)|exact HB.out)));(case aO => exact (Kd.own_of_R (by (with_reducible repeat (first|apply Kd.R_alloc|apply Kd.R_drewN|apply Kd.R_drew));exact HO150.out)));(case aS => exact (below_size (by repeat (first|(with_reducible first|exact HB.out|apply below_alloc|apply pw_below_drewN|apply below_drew1|refine below_set ?_ GE127.out|refine below_set ?_ GE141.out)|exact HB.out))));(case aL => have:=LMc41.out;omega);intro v152 w52 ho0 hb hg;have ho:=Kd.R_of_own (h1:=fun _ => rfl) (ok:=fun _ => True) ho0 (fun _ _ => trivial);clear ho0;have hat:=True.intro;rw [← Ny151.out] at ho;change Kd.R (Kd.int .u8) 5 w52 w.heap.size (fun _ => True) v152 y151 at ho;have n0_:=Aside0.mk (blk_grown (g:=gb127) (o:=.cells #[.int .i64 a0_0,.int .i64 a0_1,.slice (some ad140) l0_2.length c0_2] 28 (0,0)) (by (with_reducible repeat (first|refine blk_drewN ?_ _|refine blk_drew ?_|refine blk_alloc ?_ _));exact BK127.out) hg (Kd.R_ne HO150.out BK127.out (by decide)));have n1_:=Aside0.mk (blk_grown (g:=gb141) (o:=.cells #[.string ((rd_T37 l0_2 x67_3).f0),.string ((rd_T37 l0_2 x67_3).f1)] 37 (0,0)) (by (with_reducible repeat (first|refine blk_drewN ?_ _|refine blk_drew ?_|refine blk_alloc ?_ _));exact BK141.out) hg (Kd.R_ne HO150.out BK141.out (by decide)));have n2_:=Aside0.mk (hb);have n3_:=Aside0.mk (ho);clear BK127;clear BK141;clear HB;clear HO150;have BK127:=n0_;have BK141:=n1_;have HB:=n2_;have HO153:=n3_;clear n0_ n1_ n2_ n3_;clear ho hb hg hat))
                  go_roundg k3
                  case measure => have:=HJ1.out;have:=HJ11.out;have:=HK3.out;omega
                  case rel => exact ⟨(y151),(wrap64 (x67_3 + 1)),(by first|rfl|(simp;done)|(simp [Go.Proofs.Ytffgodpmmipnkaa.Z.bne_nil,Go.Proofs.Ytffgodpmmipnkaa.Z.beq_nil];done)|(simp [*];done)),H',⟨by have:=HJ1.out;have:=HJ11.out;have:=HK3.out;omega⟩,⟨by (with_reducible repeat (first|apply Kd.R_alloc|apply Kd.R_drewN|apply Kd.R_drew));exact HO153.out⟩,⟨by (with_reducible repeat (first|refine blk_drewN ?_ _|refine blk_drew ?_|refine blk_alloc ?_ _));exact BK127.out⟩,⟨by repeat (first|(with_reducible first|exact HB.out|apply below_alloc|apply pw_below_drewN|apply below_drew1|refine below_set ?_ GE127.out|refine below_set ?_ GE141.out)|exact HB.out)⟩⟩
                 ·rw [if_neg c41] at H
                  exact absurd H (by simp)
                ·rw [if_neg c40] at H
                 exact absurd H (by simp)
               ·rw [if_neg c39] at H
                exact absurd H (by simp)
              ·rw [if_neg c38] at H
               exact absurd H (by simp)
             ·rw [if_neg c37] at H
              exact absurd H (by simp)
            ·rw [if_neg c36] at H
             have c36b0 : decide (x67_3 < (l0_2.length : Int)) = false:=decide_eq_false c36
             clear c36
             replace H:=Option.bind_eq_some_iff.mp H
             obtain ⟨t154,A530,H⟩:=H
             replace H : (if (strOfNums x4_3).size + t154.size ≤ 9223372036854775807 then (some ((strOfNums x4_3) ++ t154,0)) else (none)) = some (r1,r2):=H
             have A53:=Aside0.mk A530
             clear A530
             by_cases c54 : (strOfNums x4_3).size + t154.size ≤ 9223372036854775807
             ·rw [if_pos c54] at H
              have c54b0:=eq_true c54
              have c54b1 : decide ((strOfNums x4_3).size + t154.size ≤ 9223372036854775807) = true:=decide_eq_true c54
              try have c54b2 : (9223372036854775807 < (strOfNums x4_3).size + t154.size) = False:=eq_false (Nat.not_lt.2 c54)
              simp only [Option.some.injEq,Prod.mk.injEq] at H
              obtain ⟨rfl,rfl⟩:=H
              try go_wp2
              have n0_:=Aside0.mk (Kd.R_drew HO_4.out)
              have n1_:=Aside0.mk (blk_drew BK127.out)
              have n2_:=Aside0.mk (below_drew1 HB.out)
              clear HO_4
              clear BK127
              clear HB
              have HO_4:=n0_
              have BK127:=n1_
              have HB:=n2_
              clear n0_ n1_ n2_
              obtain ⟨Ao57,co57,eo57⟩:=Kd.R_slice HO_4.out
              (first|subst eo57|(injection eo57 with f1_ f2_ f3_;have f4_:=f1_.symm;have f5_:=f3_.symm;clear f1_ f2_ f3_;subst f4_;subst f5_))
              refine start_ (n:=9) (S:=fun w' => (convert 63 9 (.slice Ao57 x4_3.length co57)).run Try.prog w' = .ok (.string (strOfNums x4_3)) w') (ds:=[]) #[false,false,false,false,false,false,false,false,false] (by kernel_rfl) rfl rfl (own_string (P:=Try.prog) Try.underlying63 Try.underlying5 Try.underlying9 (Kd.own_of_R HO_4.out)) (fun hHeld => ?_);refine with_tabW page_Write.tab16 page_Write.bits16 (fun HT_ HW_ => ?_)
              generalize wr.drew = w55 at HO_4 BK127 HB hHeld ⊢
              refine pure_ (i:=0) (N:=some 91) (v:=?_) (a':=?_) #[true,false,false,false,false,false,false,false,false] rfl rfl (any_of HT_.out (by kernel_rfl)) (fun _ _ _ h => h) (Or.inl ⟨by rfl,?_⟩) ?_ ?_
              rotate_left
              ·intro w'
               go_simp
               with_reducible rfl
              rotate_left
              ·simp only [Act.put,List.setIfInBounds_toArray,List.set_cons_zero,List.set_cons_succ,i64_w,i32_w]
               rfl
              refine pure_ (i:=2) (N:=some 93) (v:=?_) (a':=?_) #[true,false,true,false,false,false,false,false,false] rfl rfl (any_of HT_.out (by kernel_rfl)) (fun _ _ _ h => h) (Or.inl ⟨by rfl,?_⟩) ?_ ?_
              rotate_left
              ·intro w'
               go_simp
               with_reducible rfl
              rotate_left
              ·simp only [Act.put,List.setIfInBounds_toArray,List.set_cons_zero,List.set_cons_succ,i64_w,i32_w]
               rfl
              refine pure_ (i:=3) (N:=some 94) (v:=?_) (a':=?_) #[true,false,true,true,false,false,false,false,false] rfl rfl (any_of HT_.out (by kernel_rfl)) (fun _ _ _ h => h) (Or.inl ⟨by rfl,?_⟩) ?_ ?_
              rotate_left
              ·intro w'
               go_simp
               with_reducible rfl
              rotate_left
              ·simp only [Act.put,List.setIfInBounds_toArray,List.set_cons_zero,List.set_cons_succ,i64_w,i32_w]
               rfl
              refine pure_ (i:=4) (N:=some 95) (v:=?_) (a':=?_) #[true,false,true,true,true,false,false,false,false] rfl rfl (any_of HT_.out (by kernel_rfl)) (fun _ _ _ h => h) (Or.inl ⟨by rfl,?_⟩) ?_ ?_
              rotate_left
              ·intro w'
               go_simp
               with_reducible rfl
              rotate_left
              ·simp only [Act.put,List.setIfInBounds_toArray,List.set_cons_zero,List.set_cons_succ,i64_w,i32_w]
               rfl
              refine take_ (i:=1) (N:=some 92) (v:=?_) (a':=?_) #[true,true,true,true,true,false,false,false,false] rfl rfl (take_ofW HT_.out HW_.out (by kernel_rfl)) (fun _ _ _ h => h) (Or.inl ⟨by rfl,?_⟩) hHeld ?_ ?_
              rotate_left
              ·intro w' s0
               go_simp
               with_reducible rfl
              rotate_left
              ·simp only [Act.put,List.setIfInBounds_toArray,List.set_cons_zero,List.set_cons_succ,i64_w,i32_w]
               rfl
              refine one_ (i:=5) (N:=some 96) #[true,true,true,true,true,true,false,false,false] rfl rfl (one_of HT_.out (by kernel_rfl)) (by decide) (fun K hK => ?_)
              refine goes_ Try.func36 (by kernel_rfl) rfl #[.string (⟨#[0]⟩ : ByteArray),.int .i64 (wrap64 (512 - (x4_3.length : Int)))] (by rfl) rfl rfl (by (try simp only [List.map_toArray,List.map_cons,List.map_nil]);first|done|rfl|(simp only [List.length_drop,List.length_take];rfl)) ?_
              with_reducible refine (strings_Repeat.calls (⟨#[0]⟩ : ByteArray) (wrap64 (512 - (x4_3.length : Int))) t154 _ A53.out).mono ?_
              rintro e w58 ⟨rfl,hb⟩
              refine ⟨_,rfl,?_⟩
              have n0_:=Aside0.mk (Kd.R_below (by (with_reducible repeat (first|apply Kd.R_alloc|apply Kd.R_drewN|apply Kd.R_drew));exact HO_4.out) hb)
              have n1_:=Aside0.mk (blk_below (g:=gb127) (o:=.cells #[.int .i64 a0_0,.int .i64 a0_1,.slice A0_2 l0_2.length c0_2] 28 (0,0)) (by (with_reducible repeat (first|refine blk_drewN ?_ _|refine blk_drew ?_|refine blk_alloc ?_ _));exact BK127.out) hb)
              have n2_:=Aside0.mk (below_step (by repeat (first|(with_reducible first|exact HB.out|apply below_alloc|apply pw_below_drewN|apply below_drew1|refine below_set ?_ GE127.out)|exact HB.out)) hb)
              clear HO_4
              clear BK127
              clear HB
              have HO_4:=n0_
              have BK127:=n1_
              have HB:=n2_
              clear n0_ n1_ n2_
              (try clear hb)
              (try clear hb2)
              (try clear hk)
              (try clear hi)
              refine hK.out _ _ (own_string (P:=Try.prog) Try.underlying63 Try.underlying5 Try.underlying9 (Kd.own_of_R HO_4.out)) (fun hHeld => ?_)
              clear hK K
              refine norm_ (a':=?_) ?_ ?_
              rotate_left
              ·show Act.put _ (some 96) _ = _
               simp only [Act.put,List.setIfInBounds_toArray,List.set_cons_zero,List.set_cons_succ,i64_w,i32_w]
               rfl
              refine pure_ (i:=6) (N:=some 97) (v:=?_) (a':=?_) #[true,true,true,true,true,true,true,false,false] rfl rfl (any_of HT_.out (by kernel_rfl)) (fun _ _ _ h => h) (Or.inl ⟨by rfl,?_⟩) ?_ ?_
              rotate_left
              ·intro w'
               go_simp
               with_reducible rfl
              rotate_left
              ·simp only [Act.put,List.setIfInBounds_toArray,List.set_cons_zero,List.set_cons_succ,i64_w,i32_w]
               rfl
              refine pure_ (i:=7) (N:=some 2) (v:=?_) (a':=?_) #[true,true,true,true,true,true,true,true,false] rfl rfl (any_of HT_.out (by kernel_rfl)) (fun _ _ _ h => h) (Or.inl ⟨by rfl,?_⟩) ?_ ?_
              rotate_left
              ·intro w'
               go_simp
               with_reducible rfl
              rotate_left
              ·simp only [Act.put,List.setIfInBounds_toArray,List.set_cons_zero,List.set_cons_succ,i64_w,i32_w]
               rfl
              refine pure_ (i:=8) (N:=some 3) (v:=?_) (a':=?_) #[true,true,true,true,true,true,true,true,true] rfl rfl (any_of HT_.out (by kernel_rfl)) (fun _ _ _ h => h) (Or.inl ⟨by rfl,?_⟩) ?_ ?_
              rotate_left
              ·intro w'
               go_simp
               with_reducible rfl
              rotate_left
              ·simp only [Act.put,List.setIfInBounds_toArray,List.set_cons_zero,List.set_cons_succ,i64_w,i32_w]
               rfl
              refine done_ (done_of HT_.out (by kernel_rfl)) ?_
              try go_wp2
              go_ret2
              exact ⟨by first|rfl|(simp [errW_none,errW_some] <;> rfl)|(simp [*,errW_none,errW_some] <;> rfl),by repeat (first|(with_reducible first|exact HB.out|apply below_alloc|apply pw_below_drewN|apply below_drew1|refine below_set ?_ GE127.out)|exact HB.out)⟩
             ·rw [if_neg c54] at H
              exact absurd H (by simp)
         ·rw [if_neg c26] at H
          exact absurd H (by simp)
        ·rw [if_neg c25] at H
         exact absurd H (by simp)
       ·replace c24:=Bool.eq_false_iff.mpr c24
        subst c24
        have H1 : (some ((⟨#[]⟩ : ByteArray),4)) = some (r1,r2):=by rw [if_neg (show ¬ (false = true) by decide)] at H;exact H
        clear H
        have H:=H1
        clear H1
        simp only [Option.some.injEq,Prod.mk.injEq] at H
        obtain ⟨rfl,rfl⟩:=H
        have hcz59_0 : wc.cell? ⟨gb127,0,none⟩ = some (.int .i64 a0_0):=(blk_cell BK127.out 0).trans rfl
        have hcz59_1 : wc.cell? ⟨gb127,1,none⟩ = some (.int .i64 a0_1):=(blk_cell BK127.out 1).trans rfl
        have hcz59_2 : wc.cell? ⟨gb127,2,none⟩ = some (.slice A0_2 l0_2.length c0_2):=(blk_cell BK127.out 2).trans rfl
        have hfz59_0:=blk_frozen BK127.out 0
        have hfz59_1:=blk_frozen BK127.out 1
        have hfz59_2:=blk_frozen BK127.out 2
        go_wp2_with (first|((with_reducible refine gate_callee (f:=35) rfl ?_);refine goesL_ (some 39) rfl rfl Try.func35 (by kernel_rfl) rfl #[.slice A0_2 l0_2.length c0_2] rfl (by (try simp only [List.map_toArray,List.map_cons,List.map_nil]);first|done|rfl|(simp only [List.length_drop,List.length_take];rfl)) ?_;(with_reducible refine (page_sorted.calls kj11 _ _ l0_2 false _ ?side1 ?side2 A23.out).mono ?_);(case side1 => repeat (first|exact (Kd.C_below HR0_2.out HB.out)|(with_reducible refine Kd.C_alloc ?_ _)|(with_reducible refine Kd.C_drewN ?_ _)|(with_reducible refine Kd.C_drew ?_)));(case side2 => exact HC0_2.out);rintro e w' ⟨rfl,⟨nd,rfl⟩⟩;refine ⟨_,rfl,?_⟩))
        go_ret2
        exact ⟨by first|rfl|(simp [errW_none,errW_some] <;> rfl)|(simp [*,errW_none,errW_some] <;> rfl),by repeat (first|(with_reducible first|exact HB.out|apply below_alloc|apply pw_below_drewN|apply below_drew1|refine below_set ?_ GE127.out)|exact HB.out)⟩

end Go.Proofs.Ytffgodpmmipnkaa.X
