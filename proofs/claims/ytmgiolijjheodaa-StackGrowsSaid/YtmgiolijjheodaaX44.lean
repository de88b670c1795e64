-- By a program of this session (wip/xprint.py over the kit's print).
import Derived.Test.YtmgiolijjheodaaX0
import Derived.Test.YtmgiolijjheodaaX8
import Derived.Test.YtmgiolijjheodaaX29
import Derived.Test.YtmgiolijjheodaaX41
namespace Go.Proofs.Ytmgiolijjheodaa.X
open Go.RowKit Go.Proofs.YtmgiolijjheodaaW.PrintWords Go.Proofs.YtmgiolijjheodaaW.PrintLast Go.Proofs.YtmgiolijjheodaaW.PrintMore
attribute [local go_sem] Go.Proofs.Ytmgiolijjheodaa.Z.leq_string Go.Proofs.Ytmgiolijjheodaa.Z.gtr_string Go.Proofs.Ytmgiolijjheodaa.Z.geq_string   -- for this text's walks alone
set_option linter.unusedVariables false
set_option linter.unusedSimpArgs false

/-! ### cofferlaw14_told: function 33 -/
mutual
def cofferlaw14_told.l0 : Nat → List (S25) → Int → Option (Bool)
 | 0,_,_ => none
 | k + 1,x0,x3 => if x3 < (x0.length : Int) then (if 0 ≤ x3 then ((stack_Get.f x0 ((rd_T25 x0 x3).f1)).bind fun bt602 => (if bt602.2.2.2.2.2 = 0 then ((cofferlaw14_like.f k bt602.1 bt602.2.1 bt602.2.2.1 bt602.2.2.2.1 bt602.2.2.2.2.1 ((rd_T25 x0 x3).f0) ((rd_T25 x0 x3).f1) ((rd_T25 x0 x3).f2) ((rd_T25 x0 x3).f3) ((rd_T25 x0 x3).f4)).bind fun t612 => (cofferlaw14_told.j1 k x0 x3 (!t612))) else (cofferlaw14_told.j1 k x0 x3 true))) else (none)) else ((stack_Top.f x0).bind fun bt625 => (if (x0.length : Int) = 0 then (some (bt625.2.2.2.2.2 == 72)) else (if 0 ≤ (wrap64 ((x0.length : Int) - 1)) then (if (wrap64 ((x0.length : Int) - 1)) < (x0.length : Int) then (if (rd_T25 x0 (wrap64 ((x0.length : Int) - 1))).f2 = true then (if bt625.2.2.2.2.2 = 73 then ((cofferlaw14_like.f k bt625.1 bt625.2.1 bt625.2.2.1 bt625.2.2.2.1 bt625.2.2.2.2.1 (⟨#[]⟩ : ByteArray) 0 false (⟨#[]⟩ : ByteArray) ([] : List (S49))).bind fun t636 => (some t636)) else (some false)) else (if bt625.2.2.2.2.2 = 0 then ((cofferlaw14_like.f k bt625.1 bt625.2.1 bt625.2.2.1 bt625.2.2.2.1 bt625.2.2.2.2.1 ((rd_T25 x0 (wrap64 ((x0.length : Int) - 1))).f0) ((rd_T25 x0 (wrap64 ((x0.length : Int) - 1))).f1) ((rd_T25 x0 (wrap64 ((x0.length : Int) - 1))).f2) ((rd_T25 x0 (wrap64 ((x0.length : Int) - 1))).f3) ((rd_T25 x0 (wrap64 ((x0.length : Int) - 1))).f4)).bind fun t637 => (some t637)) else (some false))) else (none)) else (none))))
def cofferlaw14_told.j1 : Nat → List (S25) → Int → Bool → Option (Bool)
 | 0,_,_,_ => none
 | k + 1,x0,x3,x37 => if x37 = true then (none) else (if 0 ≤ x3 then (if x3 < (x0.length : Int) then ((stack_Get.f x0 (wrap64 (((rd_T25 x0 x3).f1) + 1))).bind fun bt614 => (if (wrap64 (x3 + 1)) < (x0.length : Int) then (if 0 ≤ (wrap64 (x3 + 1)) then (if bt614.2.2.2.2.2 = 0 then (if (((rd_T25 x0 (wrap64 (x3 + 1))).f1) = (wrap64 (((rd_T25 x0 x3).f1) + 1))) then (cofferlaw14_told.l0 k x0 (wrap64 (x3 + 1))) else (some false)) else (if ((rd_T25 x0 (wrap64 (x3 + 1))).f1) = (wrap64 (((rd_T25 x0 x3).f1) + 1)) then (some false) else (cofferlaw14_told.l0 k x0 (wrap64 (x3 + 1))))) else (none)) else (if bt614.2.2.2.2.2 = 0 then (some false) else (cofferlaw14_told.l0 k x0 (wrap64 (x3 + 1)))))) else (none)) else (none))
end
def cofferlaw14_told.f (k : Nat) (l0 : List (S25)) : Option (Bool):=cofferlaw14_told.l0 k l0 0
theorem cofferlaw14_told.mono_l : ∀ k,(∀ y0 y1,LeO (cofferlaw14_told.l0 k y0 y1) (cofferlaw14_told.l0 (k + 1) y0 y1)) ∧ (∀ y0 y1 y2,LeO (cofferlaw14_told.j1 k y0 y1 y2) (cofferlaw14_told.j1 (k + 1) y0 y1 y2))
 | 0 => ⟨fun _ _ r h => by simp [cofferlaw14_told.l0] at h,fun _ _ _ r h => by simp [cofferlaw14_told.j1] at h⟩
 | k + 1 => by
  obtain ⟨ih0,ih1⟩:=cofferlaw14_told.mono_l k
  refine ⟨?_,?_⟩
  ·intro y0 y1
   unfold cofferlaw14_told.l0
   repeat' first
   | (with_reducible exact ih0 _ _)
   | (with_reducible exact ih1 _ _ _)
   | (with_reducible exact cofferlaw14_like.mono _ _ _ _ _ _ _ _ _ _ _)
   | (with_reducible exact LeO.refl _)
   | (with_reducible exact LeO.none _)
   | (with_reducible refine LeO.ite ?_ ?_)
   | (with_reducible refine LeO.bind ?_ (fun _ => ?_))
   | exact ih0 _ _
   | exact ih1 _ _ _
   | exact cofferlaw14_like.mono _ _ _ _ _ _ _ _ _ _ _
   | exact LeO.none _
   | refine LeO.ite ?_ ?_
   | refine LeO.bind ?_ (fun _ => ?_)
  ·intro y0 y1 y2
   unfold cofferlaw14_told.j1
   repeat' first
   | (with_reducible exact ih0 _ _)
   | (with_reducible exact ih1 _ _ _)
   | (with_reducible exact cofferlaw14_like.mono _ _ _ _ _ _ _ _ _ _ _)
   | (with_reducible exact LeO.refl _)
   | (with_reducible exact LeO.none _)
   | (with_reducible refine LeO.ite ?_ ?_)
   | (with_reducible refine LeO.bind ?_ (fun _ => ?_))
   | exact ih0 _ _
   | exact ih1 _ _ _
   | exact cofferlaw14_like.mono _ _ _ _ _ _ _ _ _ _ _
   | exact LeO.none _
   | refine LeO.ite ?_ ?_
   | refine LeO.bind ?_ (fun _ => ?_)
theorem cofferlaw14_told.mono : ∀ a0 k,LeO (cofferlaw14_told.f k a0) (cofferlaw14_told.f (k + 1) a0):=by
 intro a0 k
 obtain ⟨ih0,ih1⟩:=cofferlaw14_told.mono_l k
 unfold cofferlaw14_told.f
 repeat' first
  | (with_reducible exact ih0 _ _)
  | (with_reducible exact ih1 _ _ _)
  | (with_reducible exact cofferlaw14_like.mono _ _ _ _ _ _ _ _ _ _ _)
  | (with_reducible exact LeO.refl _)
  | (with_reducible exact LeO.none _)
  | (with_reducible refine LeO.ite ?_ ?_)
  | (with_reducible refine LeO.bind ?_ (fun _ => ?_))
  | exact ih0 _ _
  | exact ih1 _ _ _
  | exact cofferlaw14_like.mono _ _ _ _ _ _ _ _ _ _ _
  | exact LeO.none _
  | refine LeO.ite ?_ ?_
  | refine LeO.bind ?_ (fun _ => ?_)
def cofferlaw14_told.T5 : Bool × List (List Nat × List Nat):=(true,[([],[]),([0],[0]),([1],[1]),([2],[2]),([2],[2]),([2],[2]),([4,5,2],[2,4,5]),([6,2],[2,6]),([3,7,2,2],[2,3,7]),([8,2],[2,8]),([2,9],[2,9])])
def cofferlaw14_told.B5 : List Nat:=[0,1,3,7,7,7,55,119,255,511,1023]
theorem cofferlaw14_told.tab5 : rtab .any (opsOf Try.f33 5) = cofferlaw14_told.T5:=by kernel_rfl
theorem cofferlaw14_told.bits5 : waitsOk cofferlaw14_told.T5.2 cofferlaw14_told.B5 = true:=by kernel_rfl
def cofferlaw14_told.T8 : Bool × List (List Nat × List Nat):=(true,[([],[]),([0],[0]),([],[]),([2],[2]),([],[]),([4],[4]),([3,5],[3,5]),([6],[6]),([7],[7]),([7],[7]),([9,7],[7,9]),([8,10,7],[7,8,10]),([11,7],[7,11]),([12,7],[7,12]),([7],[7]),([7],[7]),([14,15,7],[7,14,15]),([16,7],[7,16]),([17,7],[7,17]),([18,7],[7,18]),([13,19,7],[7,13,19]),([7,20],[7,20]),([1,21],[1,21])])
def cofferlaw14_told.B8 : List Nat:=[0,1,0,4,0,16,60,124,252,252,764,2044,4092,8188,252,252,49404,114940,246012,508156,1048572,2097148,4194303]
theorem cofferlaw14_told.tab8 : rtab .any (opsOf Try.f33 8) = cofferlaw14_told.T8:=by kernel_rfl
theorem cofferlaw14_told.bits8 : waitsOk cofferlaw14_told.T8.2 cofferlaw14_told.B8 = true:=by kernel_rfl
theorem cofferlaw14_told.j1_true (k : Nat) (y0) (y1) : cofferlaw14_told.j1 k y0 y1 true = none:=by cases k <;> simp [cofferlaw14_told.j1]
set_option maxHeartbeats 8000000 in
set_option maxRecDepth 100000 in
theorem cofferlaw14_told.calls (k : Nat) (A0 : Option Addr) (c0 : Nat) (l0 : List (S25)) (r : Bool) (w : World) (hr0 : Kd.C k25 w A0 l0.length l0) (hc0 : l0.length ≤ c0) (h : cofferlaw14_told.f k l0 = some r) :
 Calls Try.prog 33 #[.slice A0 l0.length c0] w fun e w' => e = .returned (.bool r) ∧ Below w.heap.size w w':=by
 have hu25:=Try.underlying25
 have HR0:=Aside0.mk hr0
 have HC0:=Aside0.mk hc0
 clear hr0 hc0
 have HB:=Aside0.mk (Below.refl w.heap.size w)
 have H : (cofferlaw14_told.l0 k l0 0) = some r:=h
 clear h
 have H':=Aside0.mk H
 clear H
 go_enter Try.func33,Try.ntmps33
 go_wp2
 go_loopg [3] k (fun kq v3 w' => ∃ (x3_1 : Int),v3 = .int .i64 x3_1 ∧ Aside0 (cofferlaw14_told.l0 kq l0 x3_1 = some r) ∧ Aside0 (kq ≤ k) ∧ Aside0 (Below w.heap.size w w'))
 case atStart => exact ⟨(0),(by first|rfl|(simp;done)|(simp [Go.Proofs.Ytmgiolijjheodaa.Z.bne_nil,Go.Proofs.Ytmgiolijjheodaa.Z.beq_nil];done)|(simp [*];done)),H',⟨Nat.le_refl _⟩,⟨by repeat (first|(with_reducible first|exact HB.out|apply below_alloc|apply pw_below_drewN|apply below_drew1)|exact HB.out)⟩⟩
 case round =>
  clear H'
  obtain ⟨x3_1,rfl,HA,HK1,HB⟩:=hrel
  cases gk with
  | zero => exact absurd HA.out (by simp [cofferlaw14_told.l0])
  | succ k1 =>
   have H:=HA.out
   clear HA
   simp only [cofferlaw14_told.l0] at H
   by_cases c2 : x3_1 < (l0.length : Int)
   ·rw [if_pos c2] at H
    have c2b0 : decide (x3_1 < (l0.length : Int)) = true:=decide_eq_true c2
    clear c2
    by_cases c3 : 0 ≤ x3_1
    ·rw [if_pos c3] at H
     have c3b0 : decide (0 ≤ x3_1) = true:=decide_eq_true c3
     clear c3
     replace H:=Option.bind_eq_some_iff.mp H
     obtain ⟨⟨t602,t603,t604,t605,t606,t609⟩,A40,H⟩:=H
     replace H : (if t609 = 0 then ((cofferlaw14_like.f k1 t602 t603 t604 t605 t606 ((rd_T25 l0 x3_1).f0) ((rd_T25 l0 x3_1).f1) ((rd_T25 l0 x3_1).f2) ((rd_T25 l0 x3_1).f3) ((rd_T25 l0 x3_1).f4)).bind fun t612 => (cofferlaw14_told.j1 k1 l0 x3_1 (!t612))) else (cofferlaw14_told.j1 k1 l0 x3_1 true)) = some r:=H
     have A4:=Aside0.mk A40
     clear A40
     have HC5:=Aside0.mk H
     clear H
     have p601 : 0 ≤ (x3_1 : Int):=of_decide_eq_true (by first|(with_reducible assumption)|assumption)
     have q601 : x3_1 < (l0.length : Int):=of_decide_eq_true (by first|(with_reducible assumption)|assumption)
     obtain ⟨ad601,A601_4,c601_4,e601,hx601_0,hx601_1,hx601_2,hx601_3,hx601_4,hl601_4,hi601_4⟩:=at_T25 HR0.out x3_1 p601 q601
     cases e601
     replace hx601_0:=(HB.out.cell (World.block_lt_of_cell? w _ hx601_0)).trans hx601_0
     replace hx601_1:=(HB.out.cell (World.block_lt_of_cell? w _ hx601_1)).trans hx601_1
     replace hx601_2:=(HB.out.cell (World.block_lt_of_cell? w _ hx601_2)).trans hx601_2
     replace hx601_3:=(HB.out.cell (World.block_lt_of_cell? w _ hx601_3)).trans hx601_3
     replace hx601_4:=(HB.out.cell (World.block_lt_of_cell? w _ hx601_4)).trans hx601_4
     have HR601_4:=Aside0.mk hi601_4
     have HC601_4:=Aside0.mk hl601_4
     clear hi601_4 hl601_4
     replace p601:=eq_true p601
     replace q601:=eq_true q601
     go_upto_region 5 with (first|((with_reducible refine gate_callee (f:=31) rfl ?_);refine goesL_ (some 24) rfl rfl Try.func31 (by kernel_rfl) rfl #[.slice (some ad601) l0.length c0,.int .i64 ((rd_T25 l0 x3_1).f1)] rfl (by (try simp only [List.map_toArray,List.map_cons,List.map_nil]);first|done|rfl|(simp only [List.length_drop,List.length_take];rfl)) ?_;(with_reducible refine (stack_Get.calls _ _ l0 ((rd_T25 l0 x3_1).f1) t602 t603 t604 t605 t606 t609 _ ?side1 ?side2 A4.out).mono ?_);(case side1 => repeat (first|exact (Kd.C_below HR0.out HB.out)|(with_reducible refine Kd.C_alloc ?_ _)|(with_reducible refine Kd.C_drewN ?_ _)|(with_reducible refine Kd.C_drew ?_)));(case side2 => exact HC0.out);rintro e w6 ⟨v607,rfl,ho0,hb⟩;refine ⟨_,rfl,?_⟩;have n0_:=Aside0.mk (Kd.R_lower ho0 (below_size (by repeat (first|(with_reducible first|exact HB.out|apply below_alloc|apply pw_below_drewN|apply below_drew1)|exact HB.out))));have n1_:=Aside0.mk (below_step (by repeat (first|(with_reducible first|exact HB.out|apply below_alloc|apply pw_below_drewN|apply below_drew1)|exact HB.out)) hb);clear HB;have HO608:=n0_;have HB:=n1_;clear n0_ n1_;(try clear hb);(try clear hb2);(try clear hk);(try clear hi);(try clear ho0))|((with_reducible refine gate_dst (N:=4) rfl ?_);refine box_event ?hg (N:=4) ?hd (cs:=#[.string (⟨#[]⟩ : ByteArray),.int .i64 0,.bool false,.string (⟨#[]⟩ : ByteArray),.slice none 0 0]) (t:=25) ?hr ?_;(case hd => rfl);(case hg => rfl);(case hr => first|(go_simp;done)|(go_simp;rfl));intro gb610 hg w7 hbox hb;have n0_:=Aside0.mk (Kd.R_below (by (with_reducible repeat (first|apply Kd.R_alloc|apply Kd.R_drewN|apply Kd.R_drew));exact HO608.out) hb);have n1_:=Aside0.mk (below_step (by repeat (first|(with_reducible first|exact HB.out|apply below_alloc|apply pw_below_drewN|apply below_drew1)|exact HB.out)) hb);have n2_:=Aside0.mk (hbox);have n3_:=Aside0.mk ((by rw [hg];exact (below_size (by repeat (first|(with_reducible first|exact HB.out|apply below_alloc|apply pw_below_drewN|apply below_drew1)|exact HB.out))) : w.heap.size ≤ gb610));have n4_:=Aside0.mk ((by rw [hg];exact (below_size (by repeat (first|(with_reducible first|exact HB.out|apply below_alloc|apply pw_below_drewN|apply below_drew1)|exact HB.out))) : w.heap.size ≤ gb610));clear HO608;clear HB;have HO608:=n0_;have HB:=n1_;have BK610:=n2_;have GW610:=n3_;have GE610:=n4_;clear n0_ n1_ n2_ n3_ n4_;clear hb hbox hg;have hcz8_0 : w7.cell? ⟨gb610,0,none⟩ = some (.string (⟨#[]⟩ : ByteArray)):=(blk_cell BK610.out 0).trans rfl;have hcz8_1 : w7.cell? ⟨gb610,1,none⟩ = some (.int .i64 0):=(blk_cell BK610.out 1).trans rfl;have hcz8_2 : w7.cell? ⟨gb610,2,none⟩ = some (.bool false):=(blk_cell BK610.out 2).trans rfl;have hcz8_3 : w7.cell? ⟨gb610,3,none⟩ = some (.string (⟨#[]⟩ : ByteArray)):=(blk_cell BK610.out 3).trans rfl;have hcz8_4 : w7.cell? ⟨gb610,4,none⟩ = some (.slice none 0 0):=(blk_cell BK610.out 4).trans rfl;have hfz8_0:=blk_frozen BK610.out 0;have hfz8_1:=blk_frozen BK610.out 1;have hfz8_2:=blk_frozen BK610.out 2;have hfz8_3:=blk_frozen BK610.out 3;have hfz8_4:=blk_frozen BK610.out 4;obtain ⟨Ao9,co9,eo9⟩:=Kd.R_slice HO608.out;subst eo9))
     (try simp only [Act.put,List.setIfInBounds_toArray,List.set_cons_zero,List.set_cons_succ])
     go_cut [37] (fun v37 wc => ∃ (kq : Nat) (x37_4 : Bool),v37 = .bool x37_4 ∧ Aside0 (cofferlaw14_told.j1 kq l0 x3_1 x37_4 = some r) ∧ Aside0 (kq ≤ k1) ∧ Aside0 (Kd.R k49 49 wc w.heap.size (fun _ => True) (.slice Ao9 t606.length co9) t606) ∧ Aside0 (wc.heap[gb610]? = some (.cells #[.string t602,.int .i64 t603,.bool t604,.string t605,(.slice Ao9 t606.length co9)] 25 (0,0))) ∧ Aside0 (Below w.heap.size w wc))
     case first =>
      have H:=HC5.out
      clear HC5
      by_cases c10 : t609 = 0
      ·rw [if_pos c10] at H
       have c10b0 : (t609 == 0) = true:=beq_iff_eq.mpr c10
       have c10b1 : (t609 != 0) = false:=bne_eq_false_iff_eq.mpr c10
       clear c10
       (first|rw [c10b0]|(simp only [i64_w,i32_w];rw [c10b0])|rw [c10b1]|skip)
       replace H:=Option.bind_eq_some_iff.mp H
       obtain ⟨t612,A110,H⟩:=H
       replace H : (cofferlaw14_told.j1 k1 l0 x3_1 (!t612)) = some r:=H
       have A11:=Aside0.mk A110
       clear A110
       have H':=Aside0.mk H
       clear H
       try go_wp2
       have n0_ : Aside0 (Kd.R k49 49 (((((w7.setCell ⟨gb610,0,none⟩ (.string t602)).setCell ⟨gb610,1,none⟩ (.int .i64 t603)).setCell ⟨gb610,2,none⟩ (.bool t604)).setCell ⟨gb610,3,none⟩ (.string t605)).setCell ⟨gb610,4,none⟩ (.slice Ao9 t606.length co9)) w.heap.size (fun _ => True) (.slice Ao9 t606.length co9) t606):=⟨by (with_reducible repeat (first|apply Kd.R_alloc|apply Kd.R_drewN|apply Kd.R_drew));exact Kd.R_mono (Kd.R_far (p:=⟨gb610,4,none⟩) (Kd.R_far (p:=⟨gb610,3,none⟩) (Kd.R_far (p:=⟨gb610,2,none⟩) (Kd.R_far (p:=⟨gb610,1,none⟩) (Kd.R_far (p:=⟨gb610,0,none⟩) (Kd.R_types HO608.out BK610.out (by decide)) (fun _ hk => hk.2) (.string t602)) (fun _ hk => hk.2) (.int .i64 t603)) (fun _ hk => hk.2) (.bool t604)) (fun _ hk => hk.2) (.string t605)) (fun _ hk => hk.2) (.slice Ao9 t606.length co9)) (fun _ hk => trivial)⟩
       have n1_ : Aside0 ((((((w7.setCell ⟨gb610,0,none⟩ (.string t602)).setCell ⟨gb610,1,none⟩ (.int .i64 t603)).setCell ⟨gb610,2,none⟩ (.bool t604)).setCell ⟨gb610,3,none⟩ (.string t605)).setCell ⟨gb610,4,none⟩ (.slice Ao9 t606.length co9)).heap[gb610]? = some (.cells #[.string t602,.int .i64 t603,.bool t604,.string t605,.slice Ao9 t606.length co9] 25 (0,0))):=⟨by (with_reducible repeat (first|refine blk_drewN ?_ _|refine blk_drew ?_|refine blk_alloc ?_ _));refine blk_put (cs:=#[.string t602,.int .i64 t603,.bool t604,.string t605,.slice none 0 0]) ?_ 4 _ rfl;(with_reducible repeat (first|refine blk_drewN ?_ _|refine blk_drew ?_|refine blk_alloc ?_ _));refine blk_put (cs:=#[.string t602,.int .i64 t603,.bool t604,.string (⟨#[]⟩ : ByteArray),.slice none 0 0]) ?_ 3 _ rfl;(with_reducible repeat (first|refine blk_drewN ?_ _|refine blk_drew ?_|refine blk_alloc ?_ _));refine blk_put (cs:=#[.string t602,.int .i64 t603,.bool false,.string (⟨#[]⟩ : ByteArray),.slice none 0 0]) ?_ 2 _ rfl;(with_reducible repeat (first|refine blk_drewN ?_ _|refine blk_drew ?_|refine blk_alloc ?_ _));refine blk_put (cs:=#[.string t602,.int .i64 0,.bool false,.string (⟨#[]⟩ : ByteArray),.slice none 0 0]) ?_ 1 _ rfl;(with_reducible repeat (first|refine blk_drewN ?_ _|refine blk_drew ?_|refine blk_alloc ?_ _));refine blk_put (cs:=#[.string (⟨#[]⟩ : ByteArray),.int .i64 0,.bool false,.string (⟨#[]⟩ : ByteArray),.slice none 0 0]) ?_ 0 _ rfl;(with_reducible repeat (first|refine blk_drewN ?_ _|refine blk_drew ?_|refine blk_alloc ?_ _));exact BK610.out⟩
       have n2_ : Aside0 (Below w.heap.size w (((((w7.setCell ⟨gb610,0,none⟩ (.string t602)).setCell ⟨gb610,1,none⟩ (.int .i64 t603)).setCell ⟨gb610,2,none⟩ (.bool t604)).setCell ⟨gb610,3,none⟩ (.string t605)).setCell ⟨gb610,4,none⟩ (.slice Ao9 t606.length co9))):=⟨by repeat (first|(with_reducible first|exact HB.out|apply below_alloc|apply pw_below_drewN|apply below_drew1|refine below_set ?_ GE610.out)|exact HB.out)⟩
       (try clear HO608)
       (try clear BK610)
       (try clear HB)
       generalize (((((w7.setCell ⟨gb610,0,none⟩ (.string t602)).setCell ⟨gb610,1,none⟩ (.int .i64 t603)).setCell ⟨gb610,2,none⟩ (.bool t604)).setCell ⟨gb610,3,none⟩ (.string t605)).setCell ⟨gb610,4,none⟩ (.slice Ao9 t606.length co9)) = w12 at n0_ n1_ n2_ ⊢
       have HO608:=n0_
       have BK610:=n1_
       have HB:=n2_
       clear n0_ n1_ n2_
       have n0_:=Aside0.mk (Kd.R_drew HO608.out)
       have n1_:=Aside0.mk (blk_drew BK610.out)
       have n2_:=Aside0.mk (below_drew1 HB.out)
       clear HO608
       clear BK610
       clear HB
       have HO608:=n0_
       have BK610:=n1_
       have HB:=n2_
       clear n0_ n1_ n2_
       have p611 : 0 ≤ (x3_1 : Int):=of_decide_eq_true (by first|(with_reducible assumption)|assumption)
       have q611 : x3_1 < (l0.length : Int):=of_decide_eq_true (by first|(with_reducible assumption)|assumption)
       obtain ⟨ad611,A611_4,c611_4,e611,hx611_0,hx611_1,hx611_2,hx611_3,hx611_4,hl611_4,hi611_4⟩:=at_T25 HR0.out x3_1 p611 q611
       have hw611_4:=hx611_4
       have hw611_3:=hx611_3
       have hw611_2:=hx611_2
       have hw611_1:=hx611_1
       have hw611_0:=hx611_0
       obtain rfl : ad601 = ad611:=(by injection e611)
       replace hx611_0:=(HB.out.cell (World.block_lt_of_cell? w _ hx611_0)).trans hx611_0
       replace hx611_1:=(HB.out.cell (World.block_lt_of_cell? w _ hx611_1)).trans hx611_1
       replace hx611_2:=(HB.out.cell (World.block_lt_of_cell? w _ hx611_2)).trans hx611_2
       replace hx611_3:=(HB.out.cell (World.block_lt_of_cell? w _ hx611_3)).trans hx611_3
       replace hx611_4:=(HB.out.cell (World.block_lt_of_cell? w _ hx611_4)).trans hx611_4
       have HR611_4:=Aside0.mk hi611_4
       have HC611_4:=Aside0.mk hl611_4
       clear hi611_4 hl611_4
       replace p611:=eq_true p611
       replace q611:=eq_true q611
       refine start_ (n:=11) (S:=fun w' => w'.cell? ⟨gb610,0,none⟩ = some (.string t602) ∧ w'.cell? ⟨gb610,1,none⟩ = some (.int .i64 t603) ∧ w'.cell? ⟨gb610,2,none⟩ = some (.bool t604) ∧ w'.cell? ⟨gb610,3,none⟩ = some (.string t605) ∧ w'.cell? ⟨gb610,4,none⟩ = some (.slice Ao9 t606.length co9) ∧ w'.cell? (ad601.add ((x3_1).toNat * 5)) = some (.string ((rd_T25 l0 x3_1).f0)) ∧ w'.cell? ⟨(ad601.add ((x3_1).toNat * 5)).block,(ad601.add ((x3_1).toNat * 5)).off + 1,none⟩ = some (.int .i64 ((rd_T25 l0 x3_1).f1)) ∧ w'.cell? ⟨(ad601.add ((x3_1).toNat * 5)).block,(ad601.add ((x3_1).toNat * 5)).off + 2,none⟩ = some (.bool ((rd_T25 l0 x3_1).f2)) ∧ w'.cell? ⟨(ad601.add ((x3_1).toNat * 5)).block,(ad601.add ((x3_1).toNat * 5)).off + 3,none⟩ = some (.string ((rd_T25 l0 x3_1).f3)) ∧ w'.cell? ⟨(ad601.add ((x3_1).toNat * 5)).block,(ad601.add ((x3_1).toNat * 5)).off + 4,none⟩ = some (.slice A611_4 ((rd_T25 l0 x3_1).f4).length c611_4)) (ds:=[]) #[false,false,false,false,false,false,false,false,false,false,false] (by kernel_rfl) rfl rfl ⟨(blk_cell BK610.out 0).trans rfl,(blk_cell BK610.out 1).trans rfl,(blk_cell BK610.out 2).trans rfl,(blk_cell BK610.out 3).trans rfl,(blk_cell BK610.out 4).trans rfl,((HB.out.cell (World.block_lt_of_cell? w _ hw611_0)).trans hw611_0),((HB.out.cell (World.block_lt_of_cell? w _ hw611_1)).trans hw611_1),((HB.out.cell (World.block_lt_of_cell? w _ hw611_2)).trans hw611_2),((HB.out.cell (World.block_lt_of_cell? w _ hw611_3)).trans hw611_3),((HB.out.cell (World.block_lt_of_cell? w _ hw611_4)).trans hw611_4)⟩ (fun hHeld => ?_);refine with_tabW cofferlaw14_told.tab5 cofferlaw14_told.bits5 (fun HT_ HW_ => ?_)
       generalize w12.drew = w13 at HO608 BK610 HB HR611_4 hx611_0 hx611_1 hx611_2 hx611_3 hx611_4 hHeld ⊢
       refine pure_ (i:=0) (N:=some 27) (v:=?_) (a':=?_) #[true,false,false,false,false,false,false,false,false,false,false] rfl rfl (any_of HT_.out (by kernel_rfl)) (fun _ _ _ h => h) (Or.inl ⟨by rfl,?_⟩) ?_ ?_
       rotate_left
       ·intro w'
        go_simp
        with_reducible rfl
       rotate_left
       ·simp only [Act.put,List.setIfInBounds_toArray,List.set_cons_zero,List.set_cons_succ,i64_w,i32_w]
        rfl
       refine pure_ (i:=1) (N:=some 28) (v:=?_) (a':=?_) #[true,true,false,false,false,false,false,false,false,false,false] rfl rfl (any_of HT_.out (by kernel_rfl)) (fun _ _ _ h => h) (Or.inl ⟨by rfl,?_⟩) ?_ ?_
       rotate_left
       ·intro w'
        go_simp
        with_reducible rfl
       rotate_left
       ·simp only [Act.put,List.setIfInBounds_toArray,List.set_cons_zero,List.set_cons_succ,i64_w,i32_w]
        rfl
       refine pure_ (i:=2) (N:=some 29) (v:=?_) (a':=?_) #[true,true,true,false,false,false,false,false,false,false,false] rfl rfl (any_of HT_.out (by kernel_rfl)) (fun _ _ _ h => h) (Or.inl ⟨by rfl,?_⟩) ?_ ?_
       rotate_left
       ·intro w'
        go_simp
        with_reducible rfl
       rotate_left
       ·simp only [Act.put,List.setIfInBounds_toArray,List.set_cons_zero,List.set_cons_succ,i64_w,i32_w]
        rfl
       refine pure_ (i:=4) (N:=some 31) (v:=?_) (a':=?_) #[true,true,true,false,true,false,false,false,false,false,false] rfl rfl (any_of HT_.out (by kernel_rfl)) (fun _ _ _ h => h) (Or.inl ⟨by rfl,?_⟩) ?_ ?_
       rotate_left
       ·intro w'
        go_simp
        with_reducible rfl
       rotate_left
       ·simp only [Act.put,List.setIfInBounds_toArray,List.set_cons_zero,List.set_cons_succ,i64_w,i32_w]
        rfl
       refine pure_ (i:=5) (N:=some 32) (v:=?_) (a':=?_) #[true,true,true,false,true,true,false,false,false,false,false] rfl rfl (any_of HT_.out (by kernel_rfl)) (fun _ _ _ h => h) (Or.inl ⟨by rfl,?_⟩) ?_ ?_
       rotate_left
       ·intro w'
        go_simp
        with_reducible rfl
       rotate_left
       ·simp only [Act.put,List.setIfInBounds_toArray,List.set_cons_zero,List.set_cons_succ,i64_w,i32_w]
        rfl
       refine pure_ (i:=6) (N:=some 33) (v:=?_) (a':=?_) #[true,true,true,false,true,true,true,false,false,false,false] rfl rfl (any_of HT_.out (by kernel_rfl)) (fun _ _ _ h => h) (Or.inl ⟨by rfl,?_⟩) ?_ ?_
       rotate_left
       ·intro w'
        go_simp
        with_reducible rfl
       rotate_left
       ·simp only [Act.put,List.setIfInBounds_toArray,List.set_cons_zero,List.set_cons_succ,i64_w,i32_w]
        rfl
       refine take_ (i:=3) (N:=some 30) (v:=?_) (a':=?_) #[true,true,true,true,true,true,true,false,false,false,false] rfl rfl (take_ofW HT_.out HW_.out (by kernel_rfl)) (fun _ _ _ h => h) (Or.inl ⟨by rfl,?_⟩) hHeld ?_ ?_
       rotate_left
       ·rintro w' ⟨s0,s1,s2,s3,s4,s5,s6,s7,s8,s9⟩
        go_simp
        with_reducible rfl
       rotate_left
       ·simp only [Act.put,List.setIfInBounds_toArray,List.set_cons_zero,List.set_cons_succ,i64_w,i32_w]
        rfl
       refine take_ (i:=7) (N:=some 34) (v:=?_) (a':=?_) #[true,true,true,true,true,true,true,true,false,false,false] rfl rfl (take_ofW HT_.out HW_.out (by kernel_rfl)) (fun _ _ _ h => h) (Or.inl ⟨by rfl,?_⟩) hHeld ?_ ?_
       rotate_left
       ·rintro w' ⟨s0,s1,s2,s3,s4,s5,s6,s7,s8,s9⟩
        go_simp
        with_reducible rfl
       rotate_left
       ·simp only [Act.put,List.setIfInBounds_toArray,List.set_cons_zero,List.set_cons_succ,i64_w,i32_w]
        rfl
       refine one_ (i:=8) (N:=some 35) #[true,true,true,true,true,true,true,true,true,false,false] rfl rfl (one_of HT_.out (by kernel_rfl)) (by decide) (fun K hK => ?_)
       refine goes_ Try.func26 (by kernel_rfl) rfl #[.agg #[.string t602,.int .i64 t603,.bool t604,.string t605,.slice Ao9 t606.length co9],.agg #[.string ((rd_T25 l0 x3_1).f0),.int .i64 ((rd_T25 l0 x3_1).f1),.bool ((rd_T25 l0 x3_1).f2),.string ((rd_T25 l0 x3_1).f3),.slice A611_4 ((rd_T25 l0 x3_1).f4).length c611_4]] (by rfl) rfl rfl (by (try simp only [List.map_toArray,List.map_cons,List.map_nil]);first|done|rfl|(simp only [List.length_drop,List.length_take];rfl)) ?_
       with_reducible refine (cofferlaw14_like.calls k1 t602 t603 t604 t605 _ _ t606 ((rd_T25 l0 x3_1).f0) ((rd_T25 l0 x3_1).f1) ((rd_T25 l0 x3_1).f2) ((rd_T25 l0 x3_1).f3) _ _ ((rd_T25 l0 x3_1).f4) t612 _ ?side1 ?side2 ?side3 ?side4 A11.out).mono ?_
       (case side1 => repeat (first|exact (Kd.R_reads' HO608.out).2.2|(with_reducible refine Kd.C_alloc ?_ _)|(with_reducible refine Kd.C_drewN ?_ _)|(with_reducible refine Kd.C_drew ?_)))
       (case side2 => exact (Kd.R_reads' HO608.out).2.1)
       (case side3 => repeat (first|exact (Kd.C_below HR611_4.out HB.out)|(with_reducible refine Kd.C_alloc ?_ _)|(with_reducible refine Kd.C_drewN ?_ _)|(with_reducible refine Kd.C_drew ?_)))
       (case side4 => exact HC611_4.out)
       rintro e w14 ⟨rfl,hb⟩
       refine ⟨_,rfl,?_⟩
       have n0_:=Aside0.mk (Kd.R_below (by (with_reducible repeat (first|apply Kd.R_alloc|apply Kd.R_drewN|apply Kd.R_drew));exact HO608.out) hb)
       have n1_:=Aside0.mk (blk_below (g:=gb610) (o:=.cells #[.string t602,.int .i64 t603,.bool t604,.string t605,.slice Ao9 t606.length co9] 25 (0,0)) (by (with_reducible repeat (first|refine blk_drewN ?_ _|refine blk_drew ?_|refine blk_alloc ?_ _));exact BK610.out) hb)
       have n2_:=Aside0.mk (below_step (by repeat (first|(with_reducible first|exact HB.out|apply below_alloc|apply pw_below_drewN|apply below_drew1|refine below_set ?_ GE610.out)|exact HB.out)) hb)
       clear HO608
       clear BK610
       clear HB
       have HO608:=n0_
       have BK610:=n1_
       have HB:=n2_
       clear n0_ n1_ n2_
       (try clear hb)
       (try clear hb2)
       (try clear hk)
       (try clear hi)
       refine hK.out _ _ ⟨(blk_cell BK610.out 0).trans rfl,(blk_cell BK610.out 1).trans rfl,(blk_cell BK610.out 2).trans rfl,(blk_cell BK610.out 3).trans rfl,(blk_cell BK610.out 4).trans rfl,((HB.out.cell (World.block_lt_of_cell? w _ hw611_0)).trans hw611_0),((HB.out.cell (World.block_lt_of_cell? w _ hw611_1)).trans hw611_1),((HB.out.cell (World.block_lt_of_cell? w _ hw611_2)).trans hw611_2),((HB.out.cell (World.block_lt_of_cell? w _ hw611_3)).trans hw611_3),((HB.out.cell (World.block_lt_of_cell? w _ hw611_4)).trans hw611_4)⟩ (fun hHeld => ?_)
       clear hK K
       refine norm_ (a':=?_) ?_ ?_
       rotate_left
       ·show Act.put _ (some 35) _ = _
        simp only [Act.put,List.setIfInBounds_toArray,List.set_cons_zero,List.set_cons_succ,i64_w,i32_w]
        rfl
       refine pure_ (i:=9) (N:=some 36) (v:=?_) (a':=?_) #[true,true,true,true,true,true,true,true,true,true,false] rfl rfl (any_of HT_.out (by kernel_rfl)) (fun _ _ _ h => h) (Or.inl ⟨by rfl,?_⟩) ?_ ?_
       rotate_left
       ·intro w'
        go_simp
        with_reducible rfl
       rotate_left
       ·simp only [Act.put,List.setIfInBounds_toArray,List.set_cons_zero,List.set_cons_succ,i64_w,i32_w]
        rfl
       refine pure_ (i:=10) (N:=some 37) (v:=?_) (a':=?_) #[true,true,true,true,true,true,true,true,true,true,true] rfl rfl (any_of HT_.out (by kernel_rfl)) (fun _ _ _ h => h) (Or.inl ⟨by rfl,?_⟩) ?_ ?_
       rotate_left
       ·intro w'
        go_simp
        with_reducible rfl
       rotate_left
       ·simp only [Act.put,List.setIfInBounds_toArray,List.set_cons_zero,List.set_cons_succ,i64_w,i32_w]
        rfl
       refine done_ (done_of HT_.out (by kernel_rfl)) ?_
       try go_wp2
       go_meet
       case rel => exact ⟨_,(!t612),(by first|rfl|(simp;done)|(simp [Go.Proofs.Ytmgiolijjheodaa.Z.bne_nil,Go.Proofs.Ytmgiolijjheodaa.Z.beq_nil];done)|(simp [*];done)),H',⟨by have:=HK1.out;first|omega|exact Nat.le_refl _⟩,⟨by (with_reducible repeat (first|apply Kd.R_alloc|apply Kd.R_drewN|apply Kd.R_drew));exact HO608.out⟩,⟨by (with_reducible repeat (first|refine blk_drewN ?_ _|refine blk_drew ?_|refine blk_alloc ?_ _));exact BK610.out⟩,⟨by repeat (first|(with_reducible first|exact HB.out|apply below_alloc|apply pw_below_drewN|apply below_drew1|refine below_set ?_ GE610.out)|exact HB.out)⟩⟩
      ·rw [if_neg c10] at H
       have c10b0 : (t609 == 0) = false:=beq_eq_false_iff_ne.mpr c10
       have c10b1 : (t609 != 0) = true:=bne_iff_ne.mpr c10
       (first|rw [c10b0]|(simp only [i64_w,i32_w];rw [c10b0])|rw [c10b1]|skip)
       exact absurd H (by simp [cofferlaw14_told.j1_true])
     case rest =>
      clear HC5
      try clear c1
      try clear c2
      try clear c2b0
      try clear p2
      try clear c3
      try clear c3b0
      try clear c6
      try clear p6
      try clear q6
      try clear hx6
      try clear c10
      try clear c10b0
      try clear c10b1
      try clear hcz8_0
      try clear hcz8_1
      try clear hcz8_2
      try clear hcz8_3
      try clear hcz8_4
      try clear hfz8_0
      try clear hfz8_1
      try clear hfz8_2
      try clear hfz8_3
      try clear hfz8_4
      try clear hx601_0
      try clear hx601_1
      try clear hx601_2
      try clear hx601_3
      try clear hx601_4
      try clear hx611_0
      try clear hx611_1
      try clear hx611_2
      try clear hx611_3
      try clear hx611_4
      try clear p601
      try clear p611
      try clear q601
      try clear q611
      obtain ⟨kq,x37_4,rfl,HA,HJ4,HO_611004,BK610,HB⟩:=hcut
      cases kq with
      | zero => exact absurd HA.out (by simp [cofferlaw14_told.j1])
      | succ kj4 =>
       have H:=HA.out
       clear HA
       simp only [cofferlaw14_told.j1] at H
       by_cases c17 : x37_4 = true
       ·subst c17
        rw [if_pos rfl] at H
        exact absurd H (by simp)
       ·replace c17:=Bool.eq_false_iff.mpr c17
        subst c17
        have H1 : (if 0 ≤ x3_1 then (if x3_1 < (l0.length : Int) then ((stack_Get.f l0 (wrap64 (((rd_T25 l0 x3_1).f1) + 1))).bind fun bt614 => (if (wrap64 (x3_1 + 1)) < (l0.length : Int) then (if 0 ≤ (wrap64 (x3_1 + 1)) then (if bt614.2.2.2.2.2 = 0 then (if (((rd_T25 l0 (wrap64 (x3_1 + 1))).f1) = (wrap64 (((rd_T25 l0 x3_1).f1) + 1))) then (cofferlaw14_told.l0 kj4 l0 (wrap64 (x3_1 + 1))) else (some false)) else (if ((rd_T25 l0 (wrap64 (x3_1 + 1))).f1) = (wrap64 (((rd_T25 l0 x3_1).f1) + 1)) then (some false) else (cofferlaw14_told.l0 kj4 l0 (wrap64 (x3_1 + 1))))) else (none)) else (if bt614.2.2.2.2.2 = 0 then (some false) else (cofferlaw14_told.l0 kj4 l0 (wrap64 (x3_1 + 1)))))) else (none)) else (none)) = some r:=by rw [if_neg (show ¬ (false = true) by decide)] at H;exact H
        clear H
        have H:=H1
        clear H1
        by_cases c18 : 0 ≤ x3_1
        ·rw [if_pos c18] at H
         have c18b0 : decide (0 ≤ x3_1) = true:=decide_eq_true c18
         clear c18
         by_cases c19 : x3_1 < (l0.length : Int)
         ·rw [if_pos c19] at H
          have c19b0 : decide (x3_1 < (l0.length : Int)) = true:=decide_eq_true c19
          clear c19
          replace H:=Option.bind_eq_some_iff.mp H
          obtain ⟨⟨t614,t615,t616,t617,t618,t621⟩,A200,H⟩:=H
          replace H : (if (wrap64 (x3_1 + 1)) < (l0.length : Int) then (if 0 ≤ (wrap64 (x3_1 + 1)) then (if t621 = 0 then (if (((rd_T25 l0 (wrap64 (x3_1 + 1))).f1) = (wrap64 (((rd_T25 l0 x3_1).f1) + 1))) then (cofferlaw14_told.l0 kj4 l0 (wrap64 (x3_1 + 1))) else (some false)) else (if ((rd_T25 l0 (wrap64 (x3_1 + 1))).f1) = (wrap64 (((rd_T25 l0 x3_1).f1) + 1)) then (some false) else (cofferlaw14_told.l0 kj4 l0 (wrap64 (x3_1 + 1))))) else (none)) else (if t621 = 0 then (some false) else (cofferlaw14_told.l0 kj4 l0 (wrap64 (x3_1 + 1))))) = some r:=H
          have A20:=Aside0.mk A200
          clear A200
          by_cases c21 : (wrap64 (x3_1 + 1)) < (l0.length : Int)
          ·rw [if_pos c21] at H
           have c21b0 : decide ((wrap64 (x3_1 + 1)) < (l0.length : Int)) = true:=decide_eq_true c21
           clear c21
           obtain ⟨ji22,hji22⟩ : ∃ j_ : Int,(wrap64 (x3_1 + 1)) = j_:=⟨_,rfl⟩
           replace H : (if 0 ≤ (ji22) then (if t621 = 0 then (if (((rd_T25 l0 (ji22)).f1) = (wrap64 (((rd_T25 l0 x3_1).f1) + 1))) then (cofferlaw14_told.l0 kj4 l0 ji22) else (some false)) else (if ((rd_T25 l0 (ji22)).f1) = (wrap64 (((rd_T25 l0 x3_1).f1) + 1)) then (some false) else (cofferlaw14_told.l0 kj4 l0 ji22))) else (none)) = some r:=by first|(rw [hji22] at H;exact H)|(simp only [hji22] at H ⊢;exact H)
           (try rw [hji22] at c21b0)
           (try rw [hji22] at A20)
           have hji22w : (IntKind.i64.wrap (x3_1 + 1)) = ji22:=(i64_w _).trans hji22
           by_cases c23 : 0 ≤ (ji22)
           ·rw [if_pos c23] at H
            have c23b0 : decide (0 ≤ (ji22)) = true:=decide_eq_true c23
            clear c23
            by_cases c24 : t621 = 0
            ·rw [if_pos c24] at H
             have c24b0 : (t621 == 0) = true:=beq_iff_eq.mpr c24
             have c24b1 : (t621 != 0) = false:=bne_eq_false_iff_eq.mpr c24
             clear c24
             by_cases c25 : (((rd_T25 l0 (ji22)).f1) = (wrap64 (((rd_T25 l0 x3_1).f1) + 1)))
             ·rw [if_pos c25] at H
              have c25b0 : (((rd_T25 l0 (ji22)).f1) == (wrap64 (((rd_T25 l0 x3_1).f1) + 1))) = true:=beq_iff_eq.mpr c25
              have c25b1 : (((rd_T25 l0 (ji22)).f1) != (wrap64 (((rd_T25 l0 x3_1).f1) + 1))) = false:=bne_eq_false_iff_eq.mpr c25
              clear c25
              have H':=Aside0.mk H
              clear H
              have p613 : 0 ≤ (x3_1 : Int):=of_decide_eq_true (by first|(with_reducible assumption)|assumption)
              have q613 : x3_1 < (l0.length : Int):=of_decide_eq_true (by first|(with_reducible assumption)|assumption)
              obtain ⟨ad613,A613_4,c613_4,e613,hx613_0,hx613_1,hx613_2,hx613_3,hx613_4,hl613_4,hi613_4⟩:=at_T25 HR0.out x3_1 p613 q613
              obtain rfl : ad601 = ad613:=(by injection e613)
              replace hx613_0:=(HB.out.cell (World.block_lt_of_cell? w _ hx613_0)).trans hx613_0
              replace hx613_1:=(HB.out.cell (World.block_lt_of_cell? w _ hx613_1)).trans hx613_1
              replace hx613_2:=(HB.out.cell (World.block_lt_of_cell? w _ hx613_2)).trans hx613_2
              replace hx613_3:=(HB.out.cell (World.block_lt_of_cell? w _ hx613_3)).trans hx613_3
              replace hx613_4:=(HB.out.cell (World.block_lt_of_cell? w _ hx613_4)).trans hx613_4
              have HR613_4:=Aside0.mk hi613_4
              have HC613_4:=Aside0.mk hl613_4
              clear hi613_4 hl613_4
              replace p613:=eq_true p613
              replace q613:=eq_true q613
              try go_wp2_with (first|((with_reducible refine gate_callee (f:=31) rfl ?_);refine goesL_ (some 46) rfl rfl Try.func31 (by kernel_rfl) rfl #[.slice (some ad601) l0.length c0,.int .i64 (wrap64 (((rd_T25 l0 x3_1).f1) + 1))] rfl (by (try simp only [List.map_toArray,List.map_cons,List.map_nil]);first|done|rfl|(simp only [List.length_drop,List.length_take];rfl)) ?_;(with_reducible refine (stack_Get.calls _ _ l0 (wrap64 (((rd_T25 l0 x3_1).f1) + 1)) t614 t615 t616 t617 t618 t621 _ ?side1 ?side2 A20.out).mono ?_);(case side1 => repeat (first|exact (Kd.C_below HR0.out HB.out)|(with_reducible refine Kd.C_alloc ?_ _)|(with_reducible refine Kd.C_drewN ?_ _)|(with_reducible refine Kd.C_drew ?_)));(case side2 => exact HC0.out);rintro e w26 ⟨v619,rfl,ho0,hb⟩;refine ⟨_,rfl,?_⟩;have n0_:=Aside0.mk (Kd.R_elder' (by (with_reducible repeat (first|apply Kd.R_alloc|apply Kd.R_drewN|apply Kd.R_drew));exact HO_611004.out) (Kd.R_base ho0) hb);have n1_:=Aside0.mk (Kd.R_lower (Kd.R_new' ho0 (Kd.R_lt (by (with_reducible repeat (first|apply Kd.R_alloc|apply Kd.R_drewN|apply Kd.R_drew));exact HO_611004.out))) (below_size (by repeat (first|(with_reducible first|exact HB.out|apply below_alloc|apply pw_below_drewN|apply below_drew1|refine below_set ?_ GE610.out)|exact HB.out))));have n2_:=Aside0.mk (blk_below (g:=gb610) (o:=.cells #[.string t602,.int .i64 t603,.bool t604,.string t605,.slice Ao9 t606.length co9] 25 (0,0)) (by (with_reducible repeat (first|refine blk_drewN ?_ _|refine blk_drew ?_|refine blk_alloc ?_ _));exact BK610.out) hb);have n3_:=Aside0.mk (below_step (by repeat (first|(with_reducible first|exact HB.out|apply below_alloc|apply pw_below_drewN|apply below_drew1|refine below_set ?_ GE610.out)|exact HB.out)) hb);clear HO_611004;clear BK610;clear HB;have HO_611004:=n0_;have HO620:=n1_;have BK610:=n2_;have HB:=n3_;clear n0_ n1_ n2_ n3_;(try clear hb);(try clear hb2);(try clear hk);(try clear hi);(try clear ho0))|((with_reducible refine gate_dst (N:=6) rfl ?_);refine box_event ?hg (N:=6) ?hd (cs:=#[.string (⟨#[]⟩ : ByteArray),.int .i64 0,.bool false,.string (⟨#[]⟩ : ByteArray),.slice none 0 0]) (t:=25) ?hr ?_;(case hd => rfl);(case hg => rfl);(case hr => first|(go_simp;done)|(go_simp;rfl));intro gb622 hg w27 hbox hb;have n0_:=Aside0.mk (Kd.R_below (by (with_reducible repeat (first|apply Kd.R_alloc|apply Kd.R_drewN|apply Kd.R_drew));exact HO_611004.out) hb);have n1_:=Aside0.mk (Kd.R_below (by (with_reducible repeat (first|apply Kd.R_alloc|apply Kd.R_drewN|apply Kd.R_drew));exact HO620.out) hb);have n2_:=Aside0.mk (blk_below (g:=gb610) (o:=.cells #[.string t602,.int .i64 t603,.bool t604,.string t605,.slice Ao9 t606.length co9] 25 (0,0)) (by (with_reducible repeat (first|refine blk_drewN ?_ _|refine blk_drew ?_|refine blk_alloc ?_ _));exact BK610.out) hb);have n3_:=Aside0.mk (below_step (by repeat (first|(with_reducible first|exact HB.out|apply below_alloc|apply pw_below_drewN|apply below_drew1|refine below_set ?_ GE610.out)|exact HB.out)) hb);have n4_:=Aside0.mk (hbox);have n5_:=Aside0.mk ((by rw [hg];exact (below_size (by repeat (first|(with_reducible first|exact HB.out|apply below_alloc|apply pw_below_drewN|apply below_drew1|refine below_set ?_ GE610.out)|exact HB.out))) : w.heap.size ≤ gb622));have n6_:=Aside0.mk ((by rw [hg];exact (below_size (by repeat (first|(with_reducible first|exact HB.out|apply below_alloc|apply pw_below_drewN|apply below_drew1|refine below_set ?_ GE610.out)|exact HB.out))) : w.heap.size ≤ gb622));have n7_:=Aside0.mk ((by rw [hg];exact Nat.ne_of_lt (blk_lt (g:=gb610) (o:=.cells #[.string t602,.int .i64 t603,.bool t604,.string t605,.slice Ao9 t606.length co9] 25 (0,0)) (by (with_reducible repeat (first|refine blk_drewN ?_ _|refine blk_drew ?_|refine blk_alloc ?_ _));exact BK610.out)) : gb610 ≠ gb622));have n8_:=Aside0.mk ((by rw [hg];exact Nat.ne_of_gt (blk_lt (g:=gb610) (o:=.cells #[.string t602,.int .i64 t603,.bool t604,.string t605,.slice Ao9 t606.length co9] 25 (0,0)) (by (with_reducible repeat (first|refine blk_drewN ?_ _|refine blk_drew ?_|refine blk_alloc ?_ _));exact BK610.out)) : gb622 ≠ gb610));clear HO_611004;clear HO620;clear BK610;clear HB;have HO_611004:=n0_;have HO620:=n1_;have BK610:=n2_;have HB:=n3_;have BK622:=n4_;have GW622:=n5_;have GE622:=n6_;have NB610_622:=n7_;have NB622_610:=n8_;clear n0_ n1_ n2_ n3_ n4_ n5_ n6_ n7_ n8_;clear hb hbox hg;have hnb28:=NB622_610.out;have hnc28:=NB610_622.out;have hcz29_0 : w27.cell? ⟨gb622,0,none⟩ = some (.string (⟨#[]⟩ : ByteArray)):=(blk_cell BK622.out 0).trans rfl;have hcz29_1 : w27.cell? ⟨gb622,1,none⟩ = some (.int .i64 0):=(blk_cell BK622.out 1).trans rfl;have hcz29_2 : w27.cell? ⟨gb622,2,none⟩ = some (.bool false):=(blk_cell BK622.out 2).trans rfl;have hcz29_3 : w27.cell? ⟨gb622,3,none⟩ = some (.string (⟨#[]⟩ : ByteArray)):=(blk_cell BK622.out 3).trans rfl;have hcz29_4 : w27.cell? ⟨gb622,4,none⟩ = some (.slice none 0 0):=(blk_cell BK622.out 4).trans rfl;have hfz29_0:=blk_frozen BK622.out 0;have hfz29_1:=blk_frozen BK622.out 1;have hfz29_2:=blk_frozen BK622.out 2;have hfz29_3:=blk_frozen BK622.out 3;have hfz29_4:=blk_frozen BK622.out 4;obtain ⟨Ao30,co30,eo30⟩:=Kd.R_slice HO620.out;subst eo30))
              have n0_ : Aside0 (Kd.R k49 49 (((((w27.setCell ⟨gb622,0,none⟩ (.string t614)).setCell ⟨gb622,1,none⟩ (.int .i64 t615)).setCell ⟨gb622,2,none⟩ (.bool t616)).setCell ⟨gb622,3,none⟩ (.string t617)).setCell ⟨gb622,4,none⟩ (.slice Ao30 t618.length co30)) w.heap.size (fun k_ => some k_ ≠ (.slice Ao30 t618.length co30 : Value).ownBlock) (.slice Ao9 t606.length co9) t606):=⟨by (with_reducible repeat (first|apply Kd.R_alloc|apply Kd.R_drewN|apply Kd.R_drew));exact Kd.R_mono (Kd.R_far (p:=⟨gb622,4,none⟩) (Kd.R_far (p:=⟨gb622,3,none⟩) (Kd.R_far (p:=⟨gb622,2,none⟩) (Kd.R_far (p:=⟨gb622,1,none⟩) (Kd.R_far (p:=⟨gb622,0,none⟩) (Kd.R_types HO_611004.out BK622.out (by decide)) (fun _ hk => hk.2) (.string t614)) (fun _ hk => hk.2) (.int .i64 t615)) (fun _ hk => hk.2) (.bool t616)) (fun _ hk => hk.2) (.string t617)) (fun _ hk => hk.2) (.slice Ao30 t618.length co30)) (fun _ hk => hk.1.2)⟩
              have n1_ : Aside0 (Kd.R k49 49 (((((w27.setCell ⟨gb622,0,none⟩ (.string t614)).setCell ⟨gb622,1,none⟩ (.int .i64 t615)).setCell ⟨gb622,2,none⟩ (.bool t616)).setCell ⟨gb622,3,none⟩ (.string t617)).setCell ⟨gb622,4,none⟩ (.slice Ao30 t618.length co30)) w.heap.size (fun k_ => some k_ ≠ (.slice Ao9 t606.length co9 : Value).ownBlock) (.slice Ao30 t618.length co30) t618):=⟨by (with_reducible repeat (first|apply Kd.R_alloc|apply Kd.R_drewN|apply Kd.R_drew));exact Kd.R_mono (Kd.R_far (p:=⟨gb622,4,none⟩) (Kd.R_far (p:=⟨gb622,3,none⟩) (Kd.R_far (p:=⟨gb622,2,none⟩) (Kd.R_far (p:=⟨gb622,1,none⟩) (Kd.R_far (p:=⟨gb622,0,none⟩) (Kd.R_types HO620.out BK622.out (by decide)) (fun _ hk => hk.2) (.string t614)) (fun _ hk => hk.2) (.int .i64 t615)) (fun _ hk => hk.2) (.bool t616)) (fun _ hk => hk.2) (.string t617)) (fun _ hk => hk.2) (.slice Ao30 t618.length co30)) (fun _ hk => hk.1.2)⟩
              have n2_ : Aside0 ((((((w27.setCell ⟨gb622,0,none⟩ (.string t614)).setCell ⟨gb622,1,none⟩ (.int .i64 t615)).setCell ⟨gb622,2,none⟩ (.bool t616)).setCell ⟨gb622,3,none⟩ (.string t617)).setCell ⟨gb622,4,none⟩ (.slice Ao30 t618.length co30)).heap[gb610]? = some (.cells #[.string t602,.int .i64 t603,.bool t604,.string t605,.slice Ao9 t606.length co9] 25 (0,0))):=⟨by (with_reducible repeat (first|refine blk_drewN ?_ _|refine blk_drew ?_|refine blk_alloc ?_ _));refine blk_far ?_ NB610_622.out _;(with_reducible repeat (first|refine blk_drewN ?_ _|refine blk_drew ?_|refine blk_alloc ?_ _));refine blk_far ?_ NB610_622.out _;(with_reducible repeat (first|refine blk_drewN ?_ _|refine blk_drew ?_|refine blk_alloc ?_ _));refine blk_far ?_ NB610_622.out _;(with_reducible repeat (first|refine blk_drewN ?_ _|refine blk_drew ?_|refine blk_alloc ?_ _));refine blk_far ?_ NB610_622.out _;(with_reducible repeat (first|refine blk_drewN ?_ _|refine blk_drew ?_|refine blk_alloc ?_ _));refine blk_far ?_ NB610_622.out _;(with_reducible repeat (first|refine blk_drewN ?_ _|refine blk_drew ?_|refine blk_alloc ?_ _));exact BK610.out⟩
              have n3_ : Aside0 ((((((w27.setCell ⟨gb622,0,none⟩ (.string t614)).setCell ⟨gb622,1,none⟩ (.int .i64 t615)).setCell ⟨gb622,2,none⟩ (.bool t616)).setCell ⟨gb622,3,none⟩ (.string t617)).setCell ⟨gb622,4,none⟩ (.slice Ao30 t618.length co30)).heap[gb622]? = some (.cells #[.string t614,.int .i64 t615,.bool t616,.string t617,.slice Ao30 t618.length co30] 25 (0,0))):=⟨by (with_reducible repeat (first|refine blk_drewN ?_ _|refine blk_drew ?_|refine blk_alloc ?_ _));refine blk_put (cs:=#[.string t614,.int .i64 t615,.bool t616,.string t617,.slice none 0 0]) ?_ 4 _ rfl;(with_reducible repeat (first|refine blk_drewN ?_ _|refine blk_drew ?_|refine blk_alloc ?_ _));refine blk_put (cs:=#[.string t614,.int .i64 t615,.bool t616,.string (⟨#[]⟩ : ByteArray),.slice none 0 0]) ?_ 3 _ rfl;(with_reducible repeat (first|refine blk_drewN ?_ _|refine blk_drew ?_|refine blk_alloc ?_ _));refine blk_put (cs:=#[.string t614,.int .i64 t615,.bool false,.string (⟨#[]⟩ : ByteArray),.slice none 0 0]) ?_ 2 _ rfl;(with_reducible repeat (first|refine blk_drewN ?_ _|refine blk_drew ?_|refine blk_alloc ?_ _));refine blk_put (cs:=#[.string t614,.int .i64 0,.bool false,.string (⟨#[]⟩ : ByteArray),.slice none 0 0]) ?_ 1 _ rfl;(with_reducible repeat (first|refine blk_drewN ?_ _|refine blk_drew ?_|refine blk_alloc ?_ _));refine blk_put (cs:=#[.string (⟨#[]⟩ : ByteArray),.int .i64 0,.bool false,.string (⟨#[]⟩ : ByteArray),.slice none 0 0]) ?_ 0 _ rfl;(with_reducible repeat (first|refine blk_drewN ?_ _|refine blk_drew ?_|refine blk_alloc ?_ _));exact BK622.out⟩
              have n4_ : Aside0 (Below w.heap.size w (((((w27.setCell ⟨gb622,0,none⟩ (.string t614)).setCell ⟨gb622,1,none⟩ (.int .i64 t615)).setCell ⟨gb622,2,none⟩ (.bool t616)).setCell ⟨gb622,3,none⟩ (.string t617)).setCell ⟨gb622,4,none⟩ (.slice Ao30 t618.length co30))):=⟨by repeat (first|(with_reducible first|exact HB.out|apply below_alloc|apply pw_below_drewN|apply below_drew1|refine below_set ?_ GE610.out|refine below_set ?_ GE622.out)|exact HB.out)⟩
              (try clear HO_611004)
              (try clear HO620)
              (try clear BK610)
              (try clear BK622)
              (try clear HB)
              generalize (((((w27.setCell ⟨gb622,0,none⟩ (.string t614)).setCell ⟨gb622,1,none⟩ (.int .i64 t615)).setCell ⟨gb622,2,none⟩ (.bool t616)).setCell ⟨gb622,3,none⟩ (.string t617)).setCell ⟨gb622,4,none⟩ (.slice Ao30 t618.length co30)) = w31 at n0_ n1_ n2_ n3_ n4_ ⊢
              have HO_611004:=n0_
              have HO620:=n1_
              have BK610:=n2_
              have BK622:=n3_
              have HB:=n4_
              clear n0_ n1_ n2_ n3_ n4_
              have n0_:=Aside0.mk (Kd.R_drew HO_611004.out)
              have n1_:=Aside0.mk (Kd.R_drew HO620.out)
              have n2_:=Aside0.mk (blk_drew BK610.out)
              have n3_:=Aside0.mk (blk_drew BK622.out)
              have n4_:=Aside0.mk (below_drew1 HB.out)
              clear HO_611004
              clear HO620
              clear BK610
              clear BK622
              clear HB
              have HO_611004:=n0_
              have HO620:=n1_
              have BK610:=n2_
              have BK622:=n3_
              have HB:=n4_
              clear n0_ n1_ n2_ n3_ n4_
              have p623 : 0 ≤ ((ji22) : Int):=of_decide_eq_true (by first|(with_reducible assumption)|assumption)
              have q623 : (ji22) < (l0.length : Int):=of_decide_eq_true (by first|(with_reducible assumption)|assumption)
              obtain ⟨ad623,A623_4,c623_4,e623,hx623_0,hx623_1,hx623_2,hx623_3,hx623_4,hl623_4,hi623_4⟩:=at_T25 HR0.out (ji22) p623 q623
              have hw623_4:=hx623_4
              have hw623_3:=hx623_3
              have hw623_2:=hx623_2
              have hw623_1:=hx623_1
              have hw623_0:=hx623_0
              obtain rfl : ad601 = ad623:=(by injection e623)
              replace hx623_0:=(HB.out.cell (World.block_lt_of_cell? w _ hx623_0)).trans hx623_0
              replace hx623_1:=(HB.out.cell (World.block_lt_of_cell? w _ hx623_1)).trans hx623_1
              replace hx623_2:=(HB.out.cell (World.block_lt_of_cell? w _ hx623_2)).trans hx623_2
              replace hx623_3:=(HB.out.cell (World.block_lt_of_cell? w _ hx623_3)).trans hx623_3
              replace hx623_4:=(HB.out.cell (World.block_lt_of_cell? w _ hx623_4)).trans hx623_4
              have HR623_4:=Aside0.mk hi623_4
              have HC623_4:=Aside0.mk hl623_4
              clear hi623_4 hl623_4
              replace p623:=eq_true p623
              replace q623:=eq_true q623
              have p624 : 0 ≤ (x3_1 : Int):=of_decide_eq_true (by first|(with_reducible assumption)|assumption)
              have q624 : x3_1 < (l0.length : Int):=of_decide_eq_true (by first|(with_reducible assumption)|assumption)
              obtain ⟨ad624,A624_4,c624_4,e624,hx624_0,hx624_1,hx624_2,hx624_3,hx624_4,hl624_4,hi624_4⟩:=at_T25 HR0.out x3_1 p624 q624
              have hw624_4:=hx624_4
              have hw624_3:=hx624_3
              have hw624_2:=hx624_2
              have hw624_1:=hx624_1
              have hw624_0:=hx624_0
              obtain rfl : ad601 = ad624:=(by injection e624)
              replace hx624_0:=(HB.out.cell (World.block_lt_of_cell? w _ hx624_0)).trans hx624_0
              replace hx624_1:=(HB.out.cell (World.block_lt_of_cell? w _ hx624_1)).trans hx624_1
              replace hx624_2:=(HB.out.cell (World.block_lt_of_cell? w _ hx624_2)).trans hx624_2
              replace hx624_3:=(HB.out.cell (World.block_lt_of_cell? w _ hx624_3)).trans hx624_3
              replace hx624_4:=(HB.out.cell (World.block_lt_of_cell? w _ hx624_4)).trans hx624_4
              have HR624_4:=Aside0.mk hi624_4
              have HC624_4:=Aside0.mk hl624_4
              clear hi624_4 hl624_4
              replace p624:=eq_true p624
              replace q624:=eq_true q624
              refine start_ (n:=23) (S:=fun w' => w'.cell? (ad601.add (((ji22)).toNat * 5)) = some (.string ((rd_T25 l0 (ji22)).f0)) ∧ w'.cell? ⟨(ad601.add (((ji22)).toNat * 5)).block,(ad601.add (((ji22)).toNat * 5)).off + 1,none⟩ = some (.int .i64 ((rd_T25 l0 (ji22)).f1)) ∧ w'.cell? ⟨(ad601.add (((ji22)).toNat * 5)).block,(ad601.add (((ji22)).toNat * 5)).off + 2,none⟩ = some (.bool ((rd_T25 l0 (ji22)).f2)) ∧ w'.cell? ⟨(ad601.add (((ji22)).toNat * 5)).block,(ad601.add (((ji22)).toNat * 5)).off + 3,none⟩ = some (.string ((rd_T25 l0 (ji22)).f3)) ∧ w'.cell? ⟨(ad601.add (((ji22)).toNat * 5)).block,(ad601.add (((ji22)).toNat * 5)).off + 4,none⟩ = some (.slice A623_4 ((rd_T25 l0 (ji22)).f4).length c623_4) ∧ w'.cell? (ad601.add ((x3_1).toNat * 5)) = some (.string ((rd_T25 l0 x3_1).f0)) ∧ w'.cell? ⟨(ad601.add ((x3_1).toNat * 5)).block,(ad601.add ((x3_1).toNat * 5)).off + 1,none⟩ = some (.int .i64 ((rd_T25 l0 x3_1).f1)) ∧ w'.cell? ⟨(ad601.add ((x3_1).toNat * 5)).block,(ad601.add ((x3_1).toNat * 5)).off + 2,none⟩ = some (.bool ((rd_T25 l0 x3_1).f2)) ∧ w'.cell? ⟨(ad601.add ((x3_1).toNat * 5)).block,(ad601.add ((x3_1).toNat * 5)).off + 3,none⟩ = some (.string ((rd_T25 l0 x3_1).f3)) ∧ w'.cell? ⟨(ad601.add ((x3_1).toNat * 5)).block,(ad601.add ((x3_1).toNat * 5)).off + 4,none⟩ = some (.slice A624_4 ((rd_T25 l0 x3_1).f4).length c624_4)) (ds:=[]) #[false,false,false,false,false,false,false,false,false,false,false,false,false,false,false,false,false,false,false,false,false,false,false] (by kernel_rfl) rfl rfl ⟨((HB.out.cell (World.block_lt_of_cell? w _ hw623_0)).trans hw623_0),((HB.out.cell (World.block_lt_of_cell? w _ hw623_1)).trans hw623_1),((HB.out.cell (World.block_lt_of_cell? w _ hw623_2)).trans hw623_2),((HB.out.cell (World.block_lt_of_cell? w _ hw623_3)).trans hw623_3),((HB.out.cell (World.block_lt_of_cell? w _ hw623_4)).trans hw623_4),((HB.out.cell (World.block_lt_of_cell? w _ hw624_0)).trans hw624_0),((HB.out.cell (World.block_lt_of_cell? w _ hw624_1)).trans hw624_1),((HB.out.cell (World.block_lt_of_cell? w _ hw624_2)).trans hw624_2),((HB.out.cell (World.block_lt_of_cell? w _ hw624_3)).trans hw624_3),((HB.out.cell (World.block_lt_of_cell? w _ hw624_4)).trans hw624_4)⟩ (fun hHeld => ?_);refine with_tabW cofferlaw14_told.tab8 cofferlaw14_told.bits8 (fun HT_ HW_ => ?_)
              generalize w31.drew = w32 at HO_611004 HO620 BK610 BK622 HB HR623_4 HR624_4 hx623_0 hx623_1 hx623_2 hx623_3 hx623_4 hx624_0 hx624_1 hx624_2 hx624_3 hx624_4 hHeld ⊢
              refine pure_ (i:=0) (N:=some 49) (v:=?_) (a':=?_) #[true,false,false,false,false,false,false,false,false,false,false,false,false,false,false,false,false,false,false,false,false,false,false] rfl rfl (any_of HT_.out (by kernel_rfl)) (fun _ _ _ h => h) (Or.inl ⟨by rfl,?_⟩) ?_ ?_
              rotate_left
              ·intro w'
               go_simp
               with_reducible rfl
              rotate_left
              ·simp only [Act.put,List.setIfInBounds_toArray,List.set_cons_zero,List.set_cons_succ,i64_w,i32_w]
               rfl
              refine pure_ (i:=1) (N:=some 50) (v:=?_) (a':=?_) #[true,true,false,false,false,false,false,false,false,false,false,false,false,false,false,false,false,false,false,false,false,false,false] rfl rfl (any_of HT_.out (by kernel_rfl)) (fun _ _ _ h => h) (Or.inl ⟨by rfl,?_⟩) ?_ ?_
              rotate_left
              ·intro w'
               go_simp
               with_reducible rfl
              rotate_left
              ·simp only [Act.put,List.setIfInBounds_toArray,List.set_cons_zero,List.set_cons_succ,i64_w,i32_w]
               rfl
              refine pure_ (i:=2) (N:=some 51) (v:=?_) (a':=?_) #[true,true,true,false,false,false,false,false,false,false,false,false,false,false,false,false,false,false,false,false,false,false,false] rfl rfl (any_of HT_.out (by kernel_rfl)) (fun _ _ _ h => h) (Or.inl ⟨by rfl,?_⟩) ?_ ?_
              rotate_left
              ·intro w'
               go_simp
               with_reducible rfl
              rotate_left
              ·simp only [Act.put,List.setIfInBounds_toArray,List.set_cons_zero,List.set_cons_succ,i64_w,i32_w]
               rfl
              refine pure_ (i:=3) (N:=some 52) (v:=?_) (a':=?_) #[true,true,true,true,false,false,false,false,false,false,false,false,false,false,false,false,false,false,false,false,false,false,false] rfl rfl (any_of HT_.out (by kernel_rfl)) (fun _ _ _ h => h) (Or.inl ⟨by rfl,?_⟩) ?_ ?_
              rotate_left
              ·intro w'
               go_simp
               with_reducible rfl
              rotate_left
              ·simp only [Act.put,List.setIfInBounds_toArray,List.set_cons_zero,List.set_cons_succ,i64_w,i32_w]
               rfl
              refine pure_ (i:=4) (N:=some 53) (v:=?_) (a':=?_) #[true,true,true,true,true,false,false,false,false,false,false,false,false,false,false,false,false,false,false,false,false,false,false] rfl rfl (any_of HT_.out (by kernel_rfl)) (fun _ _ _ h => h) (Or.inl ⟨by rfl,?_⟩) ?_ ?_
              rotate_left
              ·intro w'
               go_simp
               with_reducible rfl
              rotate_left
              ·simp only [Act.put,List.setIfInBounds_toArray,List.set_cons_zero,List.set_cons_succ,i64_w,i32_w]
               rfl
              refine pure_ (i:=5) (N:=some 54) (v:=?_) (a':=?_) #[true,true,true,true,true,true,false,false,false,false,false,false,false,false,false,false,false,false,false,false,false,false,false] rfl rfl (any_of HT_.out (by kernel_rfl)) (fun _ _ _ h => h) (Or.inl ⟨by rfl,?_⟩) ?_ ?_
              rotate_left
              ·intro w'
               go_simp
               with_reducible rfl
              rotate_left
              ·simp only [Act.put,List.setIfInBounds_toArray,List.set_cons_zero,List.set_cons_succ,i64_w,i32_w]
               rfl
              refine pure_ (i:=6) (N:=some 55) (v:=?_) (a':=?_) #[true,true,true,true,true,true,true,false,false,false,false,false,false,false,false,false,false,false,false,false,false,false,false] rfl rfl (any_of HT_.out (by kernel_rfl)) (fun _ _ _ h => h) (Or.inl ⟨by rfl,?_⟩) ?_ ?_
              rotate_left
              ·intro w'
               go_simp
               with_reducible rfl
              rotate_left
              ·simp only [Act.put,List.setIfInBounds_toArray,List.set_cons_zero,List.set_cons_succ,i64_w,i32_w]
               rfl
              refine pure_ (i:=7) (N:=some 56) (v:=?_) (a':=?_) #[true,true,true,true,true,true,true,true,false,false,false,false,false,false,false,false,false,false,false,false,false,false,false] rfl rfl (any_of HT_.out (by kernel_rfl)) (fun _ _ _ h => h) (Or.inl ⟨by rfl,?_⟩) ?_ ?_
              rotate_left
              ·intro w'
               go_simp
               with_reducible rfl
              rotate_left
              ·simp only [Act.put,List.setIfInBounds_toArray,List.set_cons_zero,List.set_cons_succ,i64_w,i32_w]
               rfl
              refine pure_ (i:=8) (N:=some 57) (v:=?_) (a':=?_) #[true,true,true,true,true,true,true,true,true,false,false,false,false,false,false,false,false,false,false,false,false,false,false] rfl rfl (any_of HT_.out (by kernel_rfl)) (fun _ _ _ h => h) (Or.inl ⟨by rfl,?_⟩) ?_ ?_
              rotate_left
              ·intro w'
               go_simp
               with_reducible rfl
              rotate_left
              ·simp only [Act.put,List.setIfInBounds_toArray,List.set_cons_zero,List.set_cons_succ,i64_w,i32_w]
               rfl
              refine pure_ (i:=9) (N:=some 58) (v:=?_) (a':=?_) #[true,true,true,true,true,true,true,true,true,true,false,false,false,false,false,false,false,false,false,false,false,false,false] rfl rfl (any_of HT_.out (by kernel_rfl)) (fun _ _ _ h => h) (Or.inl ⟨by rfl,?_⟩) ?_ ?_
              rotate_left
              ·intro w'
               go_simp
               with_reducible rfl
              rotate_left
              ·simp only [Act.put,List.setIfInBounds_toArray,List.set_cons_zero,List.set_cons_succ,i64_w,i32_w]
               rfl
              refine pure_ (i:=10) (N:=some 59) (v:=?_) (a':=?_) #[true,true,true,true,true,true,true,true,true,true,true,false,false,false,false,false,false,false,false,false,false,false,false] rfl rfl (any_of HT_.out (by kernel_rfl)) (fun _ _ _ h => h) (Or.inl ⟨by rfl,?_⟩) ?_ ?_
              rotate_left
              ·intro w'
               go_simp
               with_reducible rfl
              rotate_left
              ·simp only [Act.put,List.setIfInBounds_toArray,List.set_cons_zero,List.set_cons_succ,i64_w,i32_w]
               rfl
              refine pure_ (i:=11) (N:=some 60) (v:=?_) (a':=?_) #[true,true,true,true,true,true,true,true,true,true,true,true,false,false,false,false,false,false,false,false,false,false,false] rfl rfl (any_of HT_.out (by kernel_rfl)) (fun _ _ _ h => h) (Or.inl ⟨by rfl,?_⟩) ?_ ?_
              rotate_left
              ·intro w'
               go_simp
               with_reducible rfl
              rotate_left
              ·simp only [Act.put,List.setIfInBounds_toArray,List.set_cons_zero,List.set_cons_succ,i64_w,i32_w]
               rfl
              refine pure_ (i:=12) (N:=some 61) (v:=?_) (a':=?_) #[true,true,true,true,true,true,true,true,true,true,true,true,true,false,false,false,false,false,false,false,false,false,false] rfl rfl (any_of HT_.out (by kernel_rfl)) (fun _ _ _ h => h) (Or.inl ⟨by rfl,?_⟩) ?_ ?_
              rotate_left
              ·intro w'
               go_simp
               with_reducible rfl
              rotate_left
              ·simp only [Act.put,List.setIfInBounds_toArray,List.set_cons_zero,List.set_cons_succ,i64_w,i32_w]
               rfl
              refine pure_ (i:=14) (N:=some 63) (v:=?_) (a':=?_) #[true,true,true,true,true,true,true,true,true,true,true,true,true,false,true,false,false,false,false,false,false,false,false] rfl rfl (any_of HT_.out (by kernel_rfl)) (fun _ _ _ h => h) (Or.inl ⟨by rfl,?_⟩) ?_ ?_
              rotate_left
              ·intro w'
               go_simp
               with_reducible rfl
              rotate_left
              ·simp only [Act.put,List.setIfInBounds_toArray,List.set_cons_zero,List.set_cons_succ,i64_w,i32_w]
               rfl
              refine pure_ (i:=15) (N:=some 64) (v:=?_) (a':=?_) #[true,true,true,true,true,true,true,true,true,true,true,true,true,false,true,true,false,false,false,false,false,false,false] rfl rfl (any_of HT_.out (by kernel_rfl)) (fun _ _ _ h => h) (Or.inl ⟨by rfl,?_⟩) ?_ ?_
              rotate_left
              ·intro w'
               go_simp
               with_reducible rfl
              rotate_left
              ·simp only [Act.put,List.setIfInBounds_toArray,List.set_cons_zero,List.set_cons_succ,i64_w,i32_w]
               rfl
              refine pure_ (i:=16) (N:=some 65) (v:=?_) (a':=?_) #[true,true,true,true,true,true,true,true,true,true,true,true,true,false,true,true,true,false,false,false,false,false,false] rfl rfl (any_of HT_.out (by kernel_rfl)) (fun _ _ _ h => h) (Or.inl ⟨by rfl,?_⟩) ?_ ?_
              rotate_left
              ·intro w'
               go_simp
               with_reducible rfl
              rotate_left
              ·simp only [Act.put,List.setIfInBounds_toArray,List.set_cons_zero,List.set_cons_succ,i64_w,i32_w]
               rfl
              refine pure_ (i:=17) (N:=some 66) (v:=?_) (a':=?_) #[true,true,true,true,true,true,true,true,true,true,true,true,true,false,true,true,true,true,false,false,false,false,false] rfl rfl (any_of HT_.out (by kernel_rfl)) (fun _ _ _ h => h) (Or.inl ⟨by rfl,?_⟩) ?_ ?_
              rotate_left
              ·intro w'
               go_simp
               with_reducible rfl
              rotate_left
              ·simp only [Act.put,List.setIfInBounds_toArray,List.set_cons_zero,List.set_cons_succ,i64_w,i32_w]
               rfl
              refine take_ (i:=13) (N:=some 62) (v:=?_) (a':=?_) #[true,true,true,true,true,true,true,true,true,true,true,true,true,true,true,true,true,true,false,false,false,false,false] rfl rfl (take_ofW HT_.out HW_.out (by kernel_rfl)) (fun _ _ _ h => h) (Or.inl ⟨by rfl,?_⟩) hHeld ?_ ?_
              rotate_left
              ·rintro w' ⟨s0,s1,s2,s3,s4,s5,s6,s7,s8,s9⟩
               go_simp
               with_reducible rfl
              rotate_left
              ·simp only [Act.put,List.setIfInBounds_toArray,List.set_cons_zero,List.set_cons_succ,i64_w,i32_w]
               rfl
              refine take_ (i:=18) (N:=some 67) (v:=?_) (a':=?_) #[true,true,true,true,true,true,true,true,true,true,true,true,true,true,true,true,true,true,true,false,false,false,false] rfl rfl (take_ofW HT_.out HW_.out (by kernel_rfl)) (fun _ _ _ h => h) (Or.inl ⟨by rfl,?_⟩) hHeld ?_ ?_
              rotate_left
              ·rintro w' ⟨s0,s1,s2,s3,s4,s5,s6,s7,s8,s9⟩
               go_simp
               with_reducible rfl
              rotate_left
              ·simp only [Act.put,List.setIfInBounds_toArray,List.set_cons_zero,List.set_cons_succ,i64_w,i32_w]
               rfl
              refine pure_ (i:=19) (N:=some 68) (v:=?_) (a':=?_) #[true,true,true,true,true,true,true,true,true,true,true,true,true,true,true,true,true,true,true,true,false,false,false] rfl rfl (any_of HT_.out (by kernel_rfl)) (fun _ _ _ h => h) (Or.inl ⟨by rfl,?_⟩) ?_ ?_
              rotate_left
              ·intro w'
               go_simp
               with_reducible rfl
              rotate_left
              ·simp only [Act.put,List.setIfInBounds_toArray,List.set_cons_zero,List.set_cons_succ,i64_w,i32_w]
               rfl
              refine pure_ (i:=20) (N:=some 69) (v:=?_) (a':=?_) #[true,true,true,true,true,true,true,true,true,true,true,true,true,true,true,true,true,true,true,true,true,false,false] rfl rfl (any_of HT_.out (by kernel_rfl)) (fun _ _ _ h => h) (Or.inl ⟨by rfl,?_⟩) ?_ ?_
              rotate_left
              ·intro w'
               go_simp
               with_reducible rfl
              rotate_left
              ·simp only [Act.put,List.setIfInBounds_toArray,List.set_cons_zero,List.set_cons_succ,i64_w,i32_w]
               rfl
              refine pure_ (i:=21) (N:=some 70) (v:=?_) (a':=?_) #[true,true,true,true,true,true,true,true,true,true,true,true,true,true,true,true,true,true,true,true,true,true,false] rfl rfl (any_of HT_.out (by kernel_rfl)) (fun _ _ _ h => h) (Or.inl ⟨by rfl,?_⟩) ?_ ?_
              rotate_left
              ·intro w'
               go_simp
               with_reducible rfl
              rotate_left
              ·simp only [Act.put,List.setIfInBounds_toArray,List.set_cons_zero,List.set_cons_succ,i64_w,i32_w]
               rfl
              refine pure_ (i:=22) (N:=some 71) (v:=?_) (a':=?_) #[true,true,true,true,true,true,true,true,true,true,true,true,true,true,true,true,true,true,true,true,true,true,true] rfl rfl (any_of HT_.out (by kernel_rfl)) (fun _ _ _ h => h) (Or.inl ⟨by rfl,?_⟩) ?_ ?_
              rotate_left
              ·intro w'
               go_simp
               with_reducible rfl
              rotate_left
              ·simp only [Act.put,List.setIfInBounds_toArray,List.set_cons_zero,List.set_cons_succ,i64_w,i32_w]
               rfl
              refine done_ (done_of HT_.out (by kernel_rfl)) ?_
              try go_wp2
              go_roundg kj4
              case measure => have:=HK1.out;have:=HJ4.out;omega
              case rel => exact ⟨(ji22),(by first|rfl|(simp;done)|(simp only [← hji22] <;> (first|rfl|simp))|(simp [*];done)),H',⟨by have:=HK1.out;have:=HJ4.out;omega⟩,⟨by repeat (first|(with_reducible first|exact HB.out|apply below_alloc|apply pw_below_drewN|apply below_drew1|refine below_set ?_ GE610.out|refine below_set ?_ GE622.out)|exact HB.out)⟩⟩
             ·rw [if_neg c25] at H
              have c25b0 : (((rd_T25 l0 (ji22)).f1) == (wrap64 (((rd_T25 l0 x3_1).f1) + 1))) = false:=beq_eq_false_iff_ne.mpr c25
              have c25b1 : (((rd_T25 l0 (ji22)).f1) != (wrap64 (((rd_T25 l0 x3_1).f1) + 1))) = true:=bne_iff_ne.mpr c25
              obtain rfl:=Option.some.inj H
              have p613 : 0 ≤ (x3_1 : Int):=of_decide_eq_true (by first|(with_reducible assumption)|assumption)
              have q613 : x3_1 < (l0.length : Int):=of_decide_eq_true (by first|(with_reducible assumption)|assumption)
              obtain ⟨ad613,A613_4,c613_4,e613,hx613_0,hx613_1,hx613_2,hx613_3,hx613_4,hl613_4,hi613_4⟩:=at_T25 HR0.out x3_1 p613 q613
              obtain rfl : ad601 = ad613:=(by injection e613)
              replace hx613_0:=(HB.out.cell (World.block_lt_of_cell? w _ hx613_0)).trans hx613_0
              replace hx613_1:=(HB.out.cell (World.block_lt_of_cell? w _ hx613_1)).trans hx613_1
              replace hx613_2:=(HB.out.cell (World.block_lt_of_cell? w _ hx613_2)).trans hx613_2
              replace hx613_3:=(HB.out.cell (World.block_lt_of_cell? w _ hx613_3)).trans hx613_3
              replace hx613_4:=(HB.out.cell (World.block_lt_of_cell? w _ hx613_4)).trans hx613_4
              have HR613_4:=Aside0.mk hi613_4
              have HC613_4:=Aside0.mk hl613_4
              clear hi613_4 hl613_4
              replace p613:=eq_true p613
              replace q613:=eq_true q613
              try go_wp2_with (first|((with_reducible refine gate_callee (f:=31) rfl ?_);refine goesL_ (some 46) rfl rfl Try.func31 (by kernel_rfl) rfl #[.slice (some ad601) l0.length c0,.int .i64 (wrap64 (((rd_T25 l0 x3_1).f1) + 1))] rfl (by (try simp only [List.map_toArray,List.map_cons,List.map_nil]);first|done|rfl|(simp only [List.length_drop,List.length_take];rfl)) ?_;(with_reducible refine (stack_Get.calls _ _ l0 (wrap64 (((rd_T25 l0 x3_1).f1) + 1)) t614 t615 t616 t617 t618 t621 _ ?side1 ?side2 A20.out).mono ?_);(case side1 => repeat (first|exact (Kd.C_below HR0.out HB.out)|(with_reducible refine Kd.C_alloc ?_ _)|(with_reducible refine Kd.C_drewN ?_ _)|(with_reducible refine Kd.C_drew ?_)));(case side2 => exact HC0.out);rintro e w33 ⟨v619,rfl,ho0,hb⟩;refine ⟨_,rfl,?_⟩;have n0_:=Aside0.mk (Kd.R_elder' (by (with_reducible repeat (first|apply Kd.R_alloc|apply Kd.R_drewN|apply Kd.R_drew));exact HO_611004.out) (Kd.R_base ho0) hb);have n1_:=Aside0.mk (Kd.R_lower (Kd.R_new' ho0 (Kd.R_lt (by (with_reducible repeat (first|apply Kd.R_alloc|apply Kd.R_drewN|apply Kd.R_drew));exact HO_611004.out))) (below_size (by repeat (first|(with_reducible first|exact HB.out|apply below_alloc|apply pw_below_drewN|apply below_drew1|refine below_set ?_ GE610.out)|exact HB.out))));have n2_:=Aside0.mk (blk_below (g:=gb610) (o:=.cells #[.string t602,.int .i64 t603,.bool t604,.string t605,.slice Ao9 t606.length co9] 25 (0,0)) (by (with_reducible repeat (first|refine blk_drewN ?_ _|refine blk_drew ?_|refine blk_alloc ?_ _));exact BK610.out) hb);have n3_:=Aside0.mk (below_step (by repeat (first|(with_reducible first|exact HB.out|apply below_alloc|apply pw_below_drewN|apply below_drew1|refine below_set ?_ GE610.out)|exact HB.out)) hb);clear HO_611004;clear BK610;clear HB;have HO_611004:=n0_;have HO620:=n1_;have BK610:=n2_;have HB:=n3_;clear n0_ n1_ n2_ n3_;(try clear hb);(try clear hb2);(try clear hk);(try clear hi);(try clear ho0))|((with_reducible refine gate_dst (N:=6) rfl ?_);refine box_event ?hg (N:=6) ?hd (cs:=#[.string (⟨#[]⟩ : ByteArray),.int .i64 0,.bool false,.string (⟨#[]⟩ : ByteArray),.slice none 0 0]) (t:=25) ?hr ?_;(case hd => rfl);(case hg => rfl);(case hr => first|(go_simp;done)|(go_simp;rfl));intro gb622 hg w34 hbox hb;have n0_:=Aside0.mk (Kd.R_below (by (with_reducible repeat (first|apply Kd.R_alloc|apply Kd.R_drewN|apply Kd.R_drew));exact HO_611004.out) hb);have n1_:=Aside0.mk (Kd.R_below (by (with_reducible repeat (first|apply Kd.R_alloc|apply Kd.R_drewN|apply Kd.R_drew));exact HO620.out) hb);have n2_:=Aside0.mk (blk_below (g:=gb610) (o:=.cells #[.string t602,.int .i64 t603,.bool t604,.string t605,.slice Ao9 t606.length co9] 25 (0,0)) (by (with_reducible repeat (first|refine blk_drewN ?_ _|refine blk_drew ?_|refine blk_alloc ?_ _));exact BK610.out) hb);have n3_:=Aside0.mk (below_step (by repeat (first|(with_reducible first|exact HB.out|apply below_alloc|apply pw_below_drewN|apply below_drew1|refine below_set ?_ GE610.out)|exact HB.out)) hb);have n4_:=Aside0.mk (hbox);have n5_:=Aside0.mk ((by rw [hg];exact (below_size (by repeat (first|(with_reducible first|exact HB.out|apply below_alloc|apply pw_below_drewN|apply below_drew1|refine below_set ?_ GE610.out)|exact HB.out))) : w.heap.size ≤ gb622));have n6_:=Aside0.mk ((by rw [hg];exact (below_size (by repeat (first|(with_reducible first|exact HB.out|apply below_alloc|apply pw_below_drewN|apply below_drew1|refine below_set ?_ GE610.out)|exact HB.out))) : w.heap.size ≤ gb622));have n7_:=Aside0.mk ((by rw [hg];exact Nat.ne_of_lt (blk_lt (g:=gb610) (o:=.cells #[.string t602,.int .i64 t603,.bool t604,.string t605,.slice Ao9 t606.length co9] 25 (0,0)) (by (with_reducible repeat (first|refine blk_drewN ?_ _|refine blk_drew ?_|refine blk_alloc ?_ _));exact BK610.out)) : gb610 ≠ gb622));have n8_:=Aside0.mk ((by rw [hg];exact Nat.ne_of_gt (blk_lt (g:=gb610) (o:=.cells #[.string t602,.int .i64 t603,.bool t604,.string t605,.slice Ao9 t606.length co9] 25 (0,0)) (by (with_reducible repeat (first|refine blk_drewN ?_ _|refine blk_drew ?_|refine blk_alloc ?_ _));exact BK610.out)) : gb622 ≠ gb610));clear HO_611004;clear HO620;clear BK610;clear HB;have HO_611004:=n0_;have HO620:=n1_;have BK610:=n2_;have HB:=n3_;have BK622:=n4_;have GW622:=n5_;have GE622:=n6_;have NB610_622:=n7_;have NB622_610:=n8_;clear n0_ n1_ n2_ n3_ n4_ n5_ n6_ n7_ n8_;clear hb hbox hg;have hnb35:=NB622_610.out;have hnc35:=NB610_622.out;have hcz36_0 : w34.cell? ⟨gb622,0,none⟩ = some (.string (⟨#[]⟩ : ByteArray)):=(blk_cell BK622.out 0).trans rfl;have hcz36_1 : w34.cell? ⟨gb622,1,none⟩ = some (.int .i64 0):=(blk_cell BK622.out 1).trans rfl;have hcz36_2 : w34.cell? ⟨gb622,2,none⟩ = some (.bool false):=(blk_cell BK622.out 2).trans rfl;have hcz36_3 : w34.cell? ⟨gb622,3,none⟩ = some (.string (⟨#[]⟩ : ByteArray)):=(blk_cell BK622.out 3).trans rfl;have hcz36_4 : w34.cell? ⟨gb622,4,none⟩ = some (.slice none 0 0):=(blk_cell BK622.out 4).trans rfl;have hfz36_0:=blk_frozen BK622.out 0;have hfz36_1:=blk_frozen BK622.out 1;have hfz36_2:=blk_frozen BK622.out 2;have hfz36_3:=blk_frozen BK622.out 3;have hfz36_4:=blk_frozen BK622.out 4;obtain ⟨Ao37,co37,eo37⟩:=Kd.R_slice HO620.out;subst eo37))
              have n0_ : Aside0 (Kd.R k49 49 (((((w34.setCell ⟨gb622,0,none⟩ (.string t614)).setCell ⟨gb622,1,none⟩ (.int .i64 t615)).setCell ⟨gb622,2,none⟩ (.bool t616)).setCell ⟨gb622,3,none⟩ (.string t617)).setCell ⟨gb622,4,none⟩ (.slice Ao37 t618.length co37)) w.heap.size (fun k_ => some k_ ≠ (.slice Ao37 t618.length co37 : Value).ownBlock) (.slice Ao9 t606.length co9) t606):=⟨by (with_reducible repeat (first|apply Kd.R_alloc|apply Kd.R_drewN|apply Kd.R_drew));exact Kd.R_mono (Kd.R_far (p:=⟨gb622,4,none⟩) (Kd.R_far (p:=⟨gb622,3,none⟩) (Kd.R_far (p:=⟨gb622,2,none⟩) (Kd.R_far (p:=⟨gb622,1,none⟩) (Kd.R_far (p:=⟨gb622,0,none⟩) (Kd.R_types HO_611004.out BK622.out (by decide)) (fun _ hk => hk.2) (.string t614)) (fun _ hk => hk.2) (.int .i64 t615)) (fun _ hk => hk.2) (.bool t616)) (fun _ hk => hk.2) (.string t617)) (fun _ hk => hk.2) (.slice Ao37 t618.length co37)) (fun _ hk => hk.1.2)⟩
              have n1_ : Aside0 (Kd.R k49 49 (((((w34.setCell ⟨gb622,0,none⟩ (.string t614)).setCell ⟨gb622,1,none⟩ (.int .i64 t615)).setCell ⟨gb622,2,none⟩ (.bool t616)).setCell ⟨gb622,3,none⟩ (.string t617)).setCell ⟨gb622,4,none⟩ (.slice Ao37 t618.length co37)) w.heap.size (fun k_ => some k_ ≠ (.slice Ao9 t606.length co9 : Value).ownBlock) (.slice Ao37 t618.length co37) t618):=⟨by (with_reducible repeat (first|apply Kd.R_alloc|apply Kd.R_drewN|apply Kd.R_drew));exact Kd.R_mono (Kd.R_far (p:=⟨gb622,4,none⟩) (Kd.R_far (p:=⟨gb622,3,none⟩) (Kd.R_far (p:=⟨gb622,2,none⟩) (Kd.R_far (p:=⟨gb622,1,none⟩) (Kd.R_far (p:=⟨gb622,0,none⟩) (Kd.R_types HO620.out BK622.out (by decide)) (fun _ hk => hk.2) (.string t614)) (fun _ hk => hk.2) (.int .i64 t615)) (fun _ hk => hk.2) (.bool t616)) (fun _ hk => hk.2) (.string t617)) (fun _ hk => hk.2) (.slice Ao37 t618.length co37)) (fun _ hk => hk.1.2)⟩
              have n2_ : Aside0 ((((((w34.setCell ⟨gb622,0,none⟩ (.string t614)).setCell ⟨gb622,1,none⟩ (.int .i64 t615)).setCell ⟨gb622,2,none⟩ (.bool t616)).setCell ⟨gb622,3,none⟩ (.string t617)).setCell ⟨gb622,4,none⟩ (.slice Ao37 t618.length co37)).heap[gb610]? = some (.cells #[.string t602,.int .i64 t603,.bool t604,.string t605,.slice Ao9 t606.length co9] 25 (0,0))):=⟨by (with_reducible repeat (first|refine blk_drewN ?_ _|refine blk_drew ?_|refine blk_alloc ?_ _));refine blk_far ?_ NB610_622.out _;(with_reducible repeat (first|refine blk_drewN ?_ _|refine blk_drew ?_|refine blk_alloc ?_ _));refine blk_far ?_ NB610_622.out _;(with_reducible repeat (first|refine blk_drewN ?_ _|refine blk_drew ?_|refine blk_alloc ?_ _));refine blk_far ?_ NB610_622.out _;(with_reducible repeat (first|refine blk_drewN ?_ _|refine blk_drew ?_|refine blk_alloc ?_ _));refine blk_far ?_ NB610_622.out _;(with_reducible repeat (first|refine blk_drewN ?_ _|refine blk_drew ?_|refine blk_alloc ?_ _));refine blk_far ?_ NB610_622.out _;(with_reducible repeat (first|refine blk_drewN ?_ _|refine blk_drew ?_|refine blk_alloc ?_ _));exact BK610.out⟩
              have n3_ : Aside0 ((((((w34.setCell ⟨gb622,0,none⟩ (.string t614)).setCell ⟨gb622,1,none⟩ (.int .i64 t615)).setCell ⟨gb622,2,none⟩ (.bool t616)).setCell ⟨gb622,3,none⟩ (.string t617)).setCell ⟨gb622,4,none⟩ (.slice Ao37 t618.length co37)).heap[gb622]? = some (.cells #[.string t614,.int .i64 t615,.bool t616,.string t617,.slice Ao37 t618.length co37] 25 (0,0))):=⟨by (with_reducible repeat (first|refine blk_drewN ?_ _|refine blk_drew ?_|refine blk_alloc ?_ _));refine blk_put (cs:=#[.string t614,.int .i64 t615,.bool t616,.string t617,.slice none 0 0]) ?_ 4 _ rfl;(with_reducible repeat (first|refine blk_drewN ?_ _|refine blk_drew ?_|refine blk_alloc ?_ _));refine blk_put (cs:=#[.string t614,.int .i64 t615,.bool t616,.string (⟨#[]⟩ : ByteArray),.slice none 0 0]) ?_ 3 _ rfl;(with_reducible repeat (first|refine blk_drewN ?_ _|refine blk_drew ?_|refine blk_alloc ?_ _));refine blk_put (cs:=#[.string t614,.int .i64 t615,.bool false,.string (⟨#[]⟩ : ByteArray),.slice none 0 0]) ?_ 2 _ rfl;(with_reducible repeat (first|refine blk_drewN ?_ _|refine blk_drew ?_|refine blk_alloc ?_ _));refine blk_put (cs:=#[.string t614,.int .i64 0,.bool false,.string (⟨#[]⟩ : ByteArray),.slice none 0 0]) ?_ 1 _ rfl;(with_reducible repeat (first|refine blk_drewN ?_ _|refine blk_drew ?_|refine blk_alloc ?_ _));refine blk_put (cs:=#[.string (⟨#[]⟩ : ByteArray),.int .i64 0,.bool false,.string (⟨#[]⟩ : ByteArray),.slice none 0 0]) ?_ 0 _ rfl;(with_reducible repeat (first|refine blk_drewN ?_ _|refine blk_drew ?_|refine blk_alloc ?_ _));exact BK622.out⟩
              have n4_ : Aside0 (Below w.heap.size w (((((w34.setCell ⟨gb622,0,none⟩ (.string t614)).setCell ⟨gb622,1,none⟩ (.int .i64 t615)).setCell ⟨gb622,2,none⟩ (.bool t616)).setCell ⟨gb622,3,none⟩ (.string t617)).setCell ⟨gb622,4,none⟩ (.slice Ao37 t618.length co37))):=⟨by repeat (first|(with_reducible first|exact HB.out|apply below_alloc|apply pw_below_drewN|apply below_drew1|refine below_set ?_ GE610.out|refine below_set ?_ GE622.out)|exact HB.out)⟩
              (try clear HO_611004)
              (try clear HO620)
              (try clear BK610)
              (try clear BK622)
              (try clear HB)
              generalize (((((w34.setCell ⟨gb622,0,none⟩ (.string t614)).setCell ⟨gb622,1,none⟩ (.int .i64 t615)).setCell ⟨gb622,2,none⟩ (.bool t616)).setCell ⟨gb622,3,none⟩ (.string t617)).setCell ⟨gb622,4,none⟩ (.slice Ao37 t618.length co37)) = w38 at n0_ n1_ n2_ n3_ n4_ ⊢
              have HO_611004:=n0_
              have HO620:=n1_
              have BK610:=n2_
              have BK622:=n3_
              have HB:=n4_
              clear n0_ n1_ n2_ n3_ n4_
              have n0_:=Aside0.mk (Kd.R_drew HO_611004.out)
              have n1_:=Aside0.mk (Kd.R_drew HO620.out)
              have n2_:=Aside0.mk (blk_drew BK610.out)
              have n3_:=Aside0.mk (blk_drew BK622.out)
              have n4_:=Aside0.mk (below_drew1 HB.out)
              clear HO_611004
              clear HO620
              clear BK610
              clear BK622
              clear HB
              have HO_611004:=n0_
              have HO620:=n1_
              have BK610:=n2_
              have BK622:=n3_
              have HB:=n4_
              clear n0_ n1_ n2_ n3_ n4_
              have p623 : 0 ≤ ((ji22) : Int):=of_decide_eq_true (by first|(with_reducible assumption)|assumption)
              have q623 : (ji22) < (l0.length : Int):=of_decide_eq_true (by first|(with_reducible assumption)|assumption)
              obtain ⟨ad623,A623_4,c623_4,e623,hx623_0,hx623_1,hx623_2,hx623_3,hx623_4,hl623_4,hi623_4⟩:=at_T25 HR0.out (ji22) p623 q623
              have hw623_4:=hx623_4
              have hw623_3:=hx623_3
              have hw623_2:=hx623_2
              have hw623_1:=hx623_1
              have hw623_0:=hx623_0
              obtain rfl : ad601 = ad623:=(by injection e623)
              replace hx623_0:=(HB.out.cell (World.block_lt_of_cell? w _ hx623_0)).trans hx623_0
              replace hx623_1:=(HB.out.cell (World.block_lt_of_cell? w _ hx623_1)).trans hx623_1
              replace hx623_2:=(HB.out.cell (World.block_lt_of_cell? w _ hx623_2)).trans hx623_2
              replace hx623_3:=(HB.out.cell (World.block_lt_of_cell? w _ hx623_3)).trans hx623_3
              replace hx623_4:=(HB.out.cell (World.block_lt_of_cell? w _ hx623_4)).trans hx623_4
              have HR623_4:=Aside0.mk hi623_4
              have HC623_4:=Aside0.mk hl623_4
              clear hi623_4 hl623_4
              replace p623:=eq_true p623
              replace q623:=eq_true q623
              have p624 : 0 ≤ (x3_1 : Int):=of_decide_eq_true (by first|(with_reducible assumption)|assumption)
              have q624 : x3_1 < (l0.length : Int):=of_decide_eq_true (by first|(with_reducible assumption)|assumption)
              obtain ⟨ad624,A624_4,c624_4,e624,hx624_0,hx624_1,hx624_2,hx624_3,hx624_4,hl624_4,hi624_4⟩:=at_T25 HR0.out x3_1 p624 q624
              have hw624_4:=hx624_4
              have hw624_3:=hx624_3
              have hw624_2:=hx624_2
              have hw624_1:=hx624_1
              have hw624_0:=hx624_0
              obtain rfl : ad601 = ad624:=(by injection e624)
              replace hx624_0:=(HB.out.cell (World.block_lt_of_cell? w _ hx624_0)).trans hx624_0
              replace hx624_1:=(HB.out.cell (World.block_lt_of_cell? w _ hx624_1)).trans hx624_1
              replace hx624_2:=(HB.out.cell (World.block_lt_of_cell? w _ hx624_2)).trans hx624_2
              replace hx624_3:=(HB.out.cell (World.block_lt_of_cell? w _ hx624_3)).trans hx624_3
              replace hx624_4:=(HB.out.cell (World.block_lt_of_cell? w _ hx624_4)).trans hx624_4
              have HR624_4:=Aside0.mk hi624_4
              have HC624_4:=Aside0.mk hl624_4
              clear hi624_4 hl624_4
              replace p624:=eq_true p624
              replace q624:=eq_true q624
              refine start_ (n:=23) (S:=fun w' => w'.cell? (ad601.add (((ji22)).toNat * 5)) = some (.string ((rd_T25 l0 (ji22)).f0)) ∧ w'.cell? ⟨(ad601.add (((ji22)).toNat * 5)).block,(ad601.add (((ji22)).toNat * 5)).off + 1,none⟩ = some (.int .i64 ((rd_T25 l0 (ji22)).f1)) ∧ w'.cell? ⟨(ad601.add (((ji22)).toNat * 5)).block,(ad601.add (((ji22)).toNat * 5)).off + 2,none⟩ = some (.bool ((rd_T25 l0 (ji22)).f2)) ∧ w'.cell? ⟨(ad601.add (((ji22)).toNat * 5)).block,(ad601.add (((ji22)).toNat * 5)).off + 3,none⟩ = some (.string ((rd_T25 l0 (ji22)).f3)) ∧ w'.cell? ⟨(ad601.add (((ji22)).toNat * 5)).block,(ad601.add (((ji22)).toNat * 5)).off + 4,none⟩ = some (.slice A623_4 ((rd_T25 l0 (ji22)).f4).length c623_4) ∧ w'.cell? (ad601.add ((x3_1).toNat * 5)) = some (.string ((rd_T25 l0 x3_1).f0)) ∧ w'.cell? ⟨(ad601.add ((x3_1).toNat * 5)).block,(ad601.add ((x3_1).toNat * 5)).off + 1,none⟩ = some (.int .i64 ((rd_T25 l0 x3_1).f1)) ∧ w'.cell? ⟨(ad601.add ((x3_1).toNat * 5)).block,(ad601.add ((x3_1).toNat * 5)).off + 2,none⟩ = some (.bool ((rd_T25 l0 x3_1).f2)) ∧ w'.cell? ⟨(ad601.add ((x3_1).toNat * 5)).block,(ad601.add ((x3_1).toNat * 5)).off + 3,none⟩ = some (.string ((rd_T25 l0 x3_1).f3)) ∧ w'.cell? ⟨(ad601.add ((x3_1).toNat * 5)).block,(ad601.add ((x3_1).toNat * 5)).off + 4,none⟩ = some (.slice A624_4 ((rd_T25 l0 x3_1).f4).length c624_4)) (ds:=[]) #[false,false,false,false,false,false,false,false,false,false,false,false,false,false,false,false,false,false,false,false,false,false,false] (by kernel_rfl) rfl rfl ⟨((HB.out.cell (World.block_lt_of_cell? w _ hw623_0)).trans hw623_0),((HB.out.cell (World.block_lt_of_cell? w _ hw623_1)).trans hw623_1),((HB.out.cell (World.block_lt_of_cell? w _ hw623_2)).trans hw623_2),((HB.out.cell (World.block_lt_of_cell? w _ hw623_3)).trans hw623_3),((HB.out.cell (World.block_lt_of_cell? w _ hw623_4)).trans hw623_4),((HB.out.cell (World.block_lt_of_cell? w _ hw624_0)).trans hw624_0),((HB.out.cell (World.block_lt_of_cell? w _ hw624_1)).trans hw624_1),((HB.out.cell (World.block_lt_of_cell? w _ hw624_2)).trans hw624_2),((HB.out.cell (World.block_lt_of_cell? w _ hw624_3)).trans hw624_3),((HB.out.cell (World.block_lt_of_cell? w _ hw624_4)).trans hw624_4)⟩ (fun hHeld => ?_);refine with_tabW cofferlaw14_told.tab8 cofferlaw14_told.bits8 (fun HT_ HW_ => ?_)
              generalize w38.drew = w39 at HO_611004 HO620 BK610 BK622 HB HR623_4 HR624_4 hx623_0 hx623_1 hx623_2 hx623_3 hx623_4 hx624_0 hx624_1 hx624_2 hx624_3 hx624_4 hHeld ⊢
              refine pure_ (i:=0) (N:=some 49) (v:=?_) (a':=?_) #[true,false,false,false,false,false,false,false,false,false,false,false,false,false,false,false,false,false,false,false,false,false,false] rfl rfl (any_of HT_.out (by kernel_rfl)) (fun _ _ _ h => h) (Or.inl ⟨by rfl,?_⟩) ?_ ?_
              rotate_left
              ·intro w'
               go_simp
               with_reducible rfl
              rotate_left
              ·simp only [Act.put,List.setIfInBounds_toArray,List.set_cons_zero,List.set_cons_succ,i64_w,i32_w]
               rfl
              refine pure_ (i:=1) (N:=some 50) (v:=?_) (a':=?_) #[true,true,false,false,false,false,false,false,false,false,false,false,false,false,false,false,false,false,false,false,false,false,false] rfl rfl (any_of HT_.out (by kernel_rfl)) (fun _ _ _ h => h) (Or.inl ⟨by rfl,?_⟩) ?_ ?_
              rotate_left
              ·intro w'
               go_simp
               with_reducible rfl
              rotate_left
              ·simp only [Act.put,List.setIfInBounds_toArray,List.set_cons_zero,List.set_cons_succ,i64_w,i32_w]
               rfl
              refine pure_ (i:=2) (N:=some 51) (v:=?_) (a':=?_) #[true,true,true,false,false,false,false,false,false,false,false,false,false,false,false,false,false,false,false,false,false,false,false] rfl rfl (any_of HT_.out (by kernel_rfl)) (fun _ _ _ h => h) (Or.inl ⟨by rfl,?_⟩) ?_ ?_
              rotate_left
              ·intro w'
               go_simp
               with_reducible rfl
              rotate_left
              ·simp only [Act.put,List.setIfInBounds_toArray,List.set_cons_zero,List.set_cons_succ,i64_w,i32_w]
               rfl
              refine pure_ (i:=3) (N:=some 52) (v:=?_) (a':=?_) #[true,true,true,true,false,false,false,false,false,false,false,false,false,false,false,false,false,false,false,false,false,false,false] rfl rfl (any_of HT_.out (by kernel_rfl)) (fun _ _ _ h => h) (Or.inl ⟨by rfl,?_⟩) ?_ ?_
              rotate_left
              ·intro w'
               go_simp
               with_reducible rfl
              rotate_left
              ·simp only [Act.put,List.setIfInBounds_toArray,List.set_cons_zero,List.set_cons_succ,i64_w,i32_w]
               rfl
              refine pure_ (i:=4) (N:=some 53) (v:=?_) (a':=?_) #[true,true,true,true,true,false,false,false,false,false,false,false,false,false,false,false,false,false,false,false,false,false,false] rfl rfl (any_of HT_.out (by kernel_rfl)) (fun _ _ _ h => h) (Or.inl ⟨by rfl,?_⟩) ?_ ?_
              rotate_left
              ·intro w'
               go_simp
               with_reducible rfl
              rotate_left
              ·simp only [Act.put,List.setIfInBounds_toArray,List.set_cons_zero,List.set_cons_succ,i64_w,i32_w]
               rfl
              refine pure_ (i:=5) (N:=some 54) (v:=?_) (a':=?_) #[true,true,true,true,true,true,false,false,false,false,false,false,false,false,false,false,false,false,false,false,false,false,false] rfl rfl (any_of HT_.out (by kernel_rfl)) (fun _ _ _ h => h) (Or.inl ⟨by rfl,?_⟩) ?_ ?_
              rotate_left
              ·intro w'
               go_simp
               with_reducible rfl
              rotate_left
              ·simp only [Act.put,List.setIfInBounds_toArray,List.set_cons_zero,List.set_cons_succ,i64_w,i32_w]
               rfl
              refine pure_ (i:=6) (N:=some 55) (v:=?_) (a':=?_) #[true,true,true,true,true,true,true,false,false,false,false,false,false,false,false,false,false,false,false,false,false,false,false] rfl rfl (any_of HT_.out (by kernel_rfl)) (fun _ _ _ h => h) (Or.inl ⟨by rfl,?_⟩) ?_ ?_
              rotate_left
              ·intro w'
               go_simp
               with_reducible rfl
              rotate_left
              ·simp only [Act.put,List.setIfInBounds_toArray,List.set_cons_zero,List.set_cons_succ,i64_w,i32_w]
               rfl
              refine pure_ (i:=7) (N:=some 56) (v:=?_) (a':=?_) #[true,true,true,true,true,true,true,true,false,false,false,false,false,false,false,false,false,false,false,false,false,false,false] rfl rfl (any_of HT_.out (by kernel_rfl)) (fun _ _ _ h => h) (Or.inl ⟨by rfl,?_⟩) ?_ ?_
              rotate_left
              ·intro w'
               go_simp
               with_reducible rfl
              rotate_left
              ·simp only [Act.put,List.setIfInBounds_toArray,List.set_cons_zero,List.set_cons_succ,i64_w,i32_w]
               rfl
              refine pure_ (i:=8) (N:=some 57) (v:=?_) (a':=?_) #[true,true,true,true,true,true,true,true,true,false,false,false,false,false,false,false,false,false,false,false,false,false,false] rfl rfl (any_of HT_.out (by kernel_rfl)) (fun _ _ _ h => h) (Or.inl ⟨by rfl,?_⟩) ?_ ?_
              rotate_left
              ·intro w'
               go_simp
               with_reducible rfl
              rotate_left
              ·simp only [Act.put,List.setIfInBounds_toArray,List.set_cons_zero,List.set_cons_succ,i64_w,i32_w]
               rfl
              refine pure_ (i:=9) (N:=some 58) (v:=?_) (a':=?_) #[true,true,true,true,true,true,true,true,true,true,false,false,false,false,false,false,false,false,false,false,false,false,false] rfl rfl (any_of HT_.out (by kernel_rfl)) (fun _ _ _ h => h) (Or.inl ⟨by rfl,?_⟩) ?_ ?_
              rotate_left
              ·intro w'
               go_simp
               with_reducible rfl
              rotate_left
              ·simp only [Act.put,List.setIfInBounds_toArray,List.set_cons_zero,List.set_cons_succ,i64_w,i32_w]
               rfl
              refine pure_ (i:=10) (N:=some 59) (v:=?_) (a':=?_) #[true,true,true,true,true,true,true,true,true,true,true,false,false,false,false,false,false,false,false,false,false,false,false] rfl rfl (any_of HT_.out (by kernel_rfl)) (fun _ _ _ h => h) (Or.inl ⟨by rfl,?_⟩) ?_ ?_
              rotate_left
              ·intro w'
               go_simp
               with_reducible rfl
              rotate_left
              ·simp only [Act.put,List.setIfInBounds_toArray,List.set_cons_zero,List.set_cons_succ,i64_w,i32_w]
               rfl
              refine pure_ (i:=11) (N:=some 60) (v:=?_) (a':=?_) #[true,true,true,true,true,true,true,true,true,true,true,true,false,false,false,false,false,false,false,false,false,false,false] rfl rfl (any_of HT_.out (by kernel_rfl)) (fun _ _ _ h => h) (Or.inl ⟨by rfl,?_⟩) ?_ ?_
              rotate_left
              ·intro w'
               go_simp
               with_reducible rfl
              rotate_left
              ·simp only [Act.put,List.setIfInBounds_toArray,List.set_cons_zero,List.set_cons_succ,i64_w,i32_w]
               rfl
              refine pure_ (i:=12) (N:=some 61) (v:=?_) (a':=?_) #[true,true,true,true,true,true,true,true,true,true,true,true,true,false,false,false,false,false,false,false,false,false,false] rfl rfl (any_of HT_.out (by kernel_rfl)) (fun _ _ _ h => h) (Or.inl ⟨by rfl,?_⟩) ?_ ?_
              rotate_left
              ·intro w'
               go_simp
               with_reducible rfl
              rotate_left
              ·simp only [Act.put,List.setIfInBounds_toArray,List.set_cons_zero,List.set_cons_succ,i64_w,i32_w]
               rfl
              refine pure_ (i:=14) (N:=some 63) (v:=?_) (a':=?_) #[true,true,true,true,true,true,true,true,true,true,true,true,true,false,true,false,false,false,false,false,false,false,false] rfl rfl (any_of HT_.out (by kernel_rfl)) (fun _ _ _ h => h) (Or.inl ⟨by rfl,?_⟩) ?_ ?_
              rotate_left
              ·intro w'
               go_simp
               with_reducible rfl
              rotate_left
              ·simp only [Act.put,List.setIfInBounds_toArray,List.set_cons_zero,List.set_cons_succ,i64_w,i32_w]
               rfl
              refine pure_ (i:=15) (N:=some 64) (v:=?_) (a':=?_) #[true,true,true,true,true,true,true,true,true,true,true,true,true,false,true,true,false,false,false,false,false,false,false] rfl rfl (any_of HT_.out (by kernel_rfl)) (fun _ _ _ h => h) (Or.inl ⟨by rfl,?_⟩) ?_ ?_
              rotate_left
              ·intro w'
               go_simp
               with_reducible rfl
              rotate_left
              ·simp only [Act.put,List.setIfInBounds_toArray,List.set_cons_zero,List.set_cons_succ,i64_w,i32_w]
               rfl
              refine pure_ (i:=16) (N:=some 65) (v:=?_) (a':=?_) #[true,true,true,true,true,true,true,true,true,true,true,true,true,false,true,true,true,false,false,false,false,false,false] rfl rfl (any_of HT_.out (by kernel_rfl)) (fun _ _ _ h => h) (Or.inl ⟨by rfl,?_⟩) ?_ ?_
              rotate_left
              ·intro w'
               go_simp
               with_reducible rfl
              rotate_left
              ·simp only [Act.put,List.setIfInBounds_toArray,List.set_cons_zero,List.set_cons_succ,i64_w,i32_w]
               rfl
              refine pure_ (i:=17) (N:=some 66) (v:=?_) (a':=?_) #[true,true,true,true,true,true,true,true,true,true,true,true,true,false,true,true,true,true,false,false,false,false,false] rfl rfl (any_of HT_.out (by kernel_rfl)) (fun _ _ _ h => h) (Or.inl ⟨by rfl,?_⟩) ?_ ?_
              rotate_left
              ·intro w'
               go_simp
               with_reducible rfl
              rotate_left
              ·simp only [Act.put,List.setIfInBounds_toArray,List.set_cons_zero,List.set_cons_succ,i64_w,i32_w]
               rfl
              refine take_ (i:=13) (N:=some 62) (v:=?_) (a':=?_) #[true,true,true,true,true,true,true,true,true,true,true,true,true,true,true,true,true,true,false,false,false,false,false] rfl rfl (take_ofW HT_.out HW_.out (by kernel_rfl)) (fun _ _ _ h => h) (Or.inl ⟨by rfl,?_⟩) hHeld ?_ ?_
              rotate_left
              ·rintro w' ⟨s0,s1,s2,s3,s4,s5,s6,s7,s8,s9⟩
               go_simp
               with_reducible rfl
              rotate_left
              ·simp only [Act.put,List.setIfInBounds_toArray,List.set_cons_zero,List.set_cons_succ,i64_w,i32_w]
               rfl
              refine take_ (i:=18) (N:=some 67) (v:=?_) (a':=?_) #[true,true,true,true,true,true,true,true,true,true,true,true,true,true,true,true,true,true,true,false,false,false,false] rfl rfl (take_ofW HT_.out HW_.out (by kernel_rfl)) (fun _ _ _ h => h) (Or.inl ⟨by rfl,?_⟩) hHeld ?_ ?_
              rotate_left
              ·rintro w' ⟨s0,s1,s2,s3,s4,s5,s6,s7,s8,s9⟩
               go_simp
               with_reducible rfl
              rotate_left
              ·simp only [Act.put,List.setIfInBounds_toArray,List.set_cons_zero,List.set_cons_succ,i64_w,i32_w]
               rfl
              refine pure_ (i:=19) (N:=some 68) (v:=?_) (a':=?_) #[true,true,true,true,true,true,true,true,true,true,true,true,true,true,true,true,true,true,true,true,false,false,false] rfl rfl (any_of HT_.out (by kernel_rfl)) (fun _ _ _ h => h) (Or.inl ⟨by rfl,?_⟩) ?_ ?_
              rotate_left
              ·intro w'
               go_simp
               with_reducible rfl
              rotate_left
              ·simp only [Act.put,List.setIfInBounds_toArray,List.set_cons_zero,List.set_cons_succ,i64_w,i32_w]
               rfl
              refine pure_ (i:=20) (N:=some 69) (v:=?_) (a':=?_) #[true,true,true,true,true,true,true,true,true,true,true,true,true,true,true,true,true,true,true,true,true,false,false] rfl rfl (any_of HT_.out (by kernel_rfl)) (fun _ _ _ h => h) (Or.inl ⟨by rfl,?_⟩) ?_ ?_
              rotate_left
              ·intro w'
               go_simp
               with_reducible rfl
              rotate_left
              ·simp only [Act.put,List.setIfInBounds_toArray,List.set_cons_zero,List.set_cons_succ,i64_w,i32_w]
               rfl
              refine pure_ (i:=21) (N:=some 70) (v:=?_) (a':=?_) #[true,true,true,true,true,true,true,true,true,true,true,true,true,true,true,true,true,true,true,true,true,true,false] rfl rfl (any_of HT_.out (by kernel_rfl)) (fun _ _ _ h => h) (Or.inl ⟨by rfl,?_⟩) ?_ ?_
              rotate_left
              ·intro w'
               go_simp
               with_reducible rfl
              rotate_left
              ·simp only [Act.put,List.setIfInBounds_toArray,List.set_cons_zero,List.set_cons_succ,i64_w,i32_w]
               rfl
              refine pure_ (i:=22) (N:=some 71) (v:=?_) (a':=?_) #[true,true,true,true,true,true,true,true,true,true,true,true,true,true,true,true,true,true,true,true,true,true,true] rfl rfl (any_of HT_.out (by kernel_rfl)) (fun _ _ _ h => h) (Or.inl ⟨by rfl,?_⟩) ?_ ?_
              rotate_left
              ·intro w'
               go_simp
               with_reducible rfl
              rotate_left
              ·simp only [Act.put,List.setIfInBounds_toArray,List.set_cons_zero,List.set_cons_succ,i64_w,i32_w]
               rfl
              refine done_ (done_of HT_.out (by kernel_rfl)) ?_
              try go_wp2
              go_ret
              exact ⟨by first|rfl|(simp [errW_none,errW_some] <;> rfl)|(simp only [← hji22];first|rfl|(simp [errW_none,errW_some] <;> rfl))|(simp [*,errW_none,errW_some] <;> rfl),by repeat (first|(with_reducible first|exact HB.out|apply below_alloc|apply pw_below_drewN|apply below_drew1|refine below_set ?_ GE610.out|refine below_set ?_ GE622.out)|exact HB.out)⟩
            ·rw [if_neg c24] at H
             have c24b0 : (t621 == 0) = false:=beq_eq_false_iff_ne.mpr c24
             have c24b1 : (t621 != 0) = true:=bne_iff_ne.mpr c24
             by_cases c40 : ((rd_T25 l0 (ji22)).f1) = (wrap64 (((rd_T25 l0 x3_1).f1) + 1))
             ·rw [if_pos c40] at H
              have c40b0 : (((rd_T25 l0 (ji22)).f1) == (wrap64 (((rd_T25 l0 x3_1).f1) + 1))) = true:=beq_iff_eq.mpr c40
              have c40b1 : (((rd_T25 l0 (ji22)).f1) != (wrap64 (((rd_T25 l0 x3_1).f1) + 1))) = false:=bne_eq_false_iff_eq.mpr c40
              clear c40
              obtain rfl:=Option.some.inj H
              have p613 : 0 ≤ (x3_1 : Int):=of_decide_eq_true (by first|(with_reducible assumption)|assumption)
              have q613 : x3_1 < (l0.length : Int):=of_decide_eq_true (by first|(with_reducible assumption)|assumption)
              obtain ⟨ad613,A613_4,c613_4,e613,hx613_0,hx613_1,hx613_2,hx613_3,hx613_4,hl613_4,hi613_4⟩:=at_T25 HR0.out x3_1 p613 q613
              obtain rfl : ad601 = ad613:=(by injection e613)
              replace hx613_0:=(HB.out.cell (World.block_lt_of_cell? w _ hx613_0)).trans hx613_0
              replace hx613_1:=(HB.out.cell (World.block_lt_of_cell? w _ hx613_1)).trans hx613_1
              replace hx613_2:=(HB.out.cell (World.block_lt_of_cell? w _ hx613_2)).trans hx613_2
              replace hx613_3:=(HB.out.cell (World.block_lt_of_cell? w _ hx613_3)).trans hx613_3
              replace hx613_4:=(HB.out.cell (World.block_lt_of_cell? w _ hx613_4)).trans hx613_4
              have HR613_4:=Aside0.mk hi613_4
              have HC613_4:=Aside0.mk hl613_4
              clear hi613_4 hl613_4
              replace p613:=eq_true p613
              replace q613:=eq_true q613
              try go_wp2_with (first|((with_reducible refine gate_callee (f:=31) rfl ?_);refine goesL_ (some 46) rfl rfl Try.func31 (by kernel_rfl) rfl #[.slice (some ad601) l0.length c0,.int .i64 (wrap64 (((rd_T25 l0 x3_1).f1) + 1))] rfl (by (try simp only [List.map_toArray,List.map_cons,List.map_nil]);first|done|rfl|(simp only [List.length_drop,List.length_take];rfl)) ?_;(with_reducible refine (stack_Get.calls _ _ l0 (wrap64 (((rd_T25 l0 x3_1).f1) + 1)) t614 t615 t616 t617 t618 t621 _ ?side1 ?side2 A20.out).mono ?_);(case side1 => repeat (first|exact (Kd.C_below HR0.out HB.out)|(with_reducible refine Kd.C_alloc ?_ _)|(with_reducible refine Kd.C_drewN ?_ _)|(with_reducible refine Kd.C_drew ?_)));(case side2 => exact HC0.out);rintro e w41 ⟨v619,rfl,ho0,hb⟩;refine ⟨_,rfl,?_⟩;have n0_:=Aside0.mk (Kd.R_elder' (by (with_reducible repeat (first|apply Kd.R_alloc|apply Kd.R_drewN|apply Kd.R_drew));exact HO_611004.out) (Kd.R_base ho0) hb);have n1_:=Aside0.mk (Kd.R_lower (Kd.R_new' ho0 (Kd.R_lt (by (with_reducible repeat (first|apply Kd.R_alloc|apply Kd.R_drewN|apply Kd.R_drew));exact HO_611004.out))) (below_size (by repeat (first|(with_reducible first|exact HB.out|apply below_alloc|apply pw_below_drewN|apply below_drew1|refine below_set ?_ GE610.out)|exact HB.out))));have n2_:=Aside0.mk (blk_below (g:=gb610) (o:=.cells #[.string t602,.int .i64 t603,.bool t604,.string t605,.slice Ao9 t606.length co9] 25 (0,0)) (by (with_reducible repeat (first|refine blk_drewN ?_ _|refine blk_drew ?_|refine blk_alloc ?_ _));exact BK610.out) hb);have n3_:=Aside0.mk (below_step (by repeat (first|(with_reducible first|exact HB.out|apply below_alloc|apply pw_below_drewN|apply below_drew1|refine below_set ?_ GE610.out)|exact HB.out)) hb);clear HO_611004;clear BK610;clear HB;have HO_611004:=n0_;have HO620:=n1_;have BK610:=n2_;have HB:=n3_;clear n0_ n1_ n2_ n3_;(try clear hb);(try clear hb2);(try clear hk);(try clear hi);(try clear ho0))|((with_reducible refine gate_dst (N:=6) rfl ?_);refine box_event ?hg (N:=6) ?hd (cs:=#[.string (⟨#[]⟩ : ByteArray),.int .i64 0,.bool false,.string (⟨#[]⟩ : ByteArray),.slice none 0 0]) (t:=25) ?hr ?_;(case hd => rfl);(case hg => rfl);(case hr => first|(go_simp;done)|(go_simp;rfl));intro gb622 hg w42 hbox hb;have n0_:=Aside0.mk (Kd.R_below (by (with_reducible repeat (first|apply Kd.R_alloc|apply Kd.R_drewN|apply Kd.R_drew));exact HO_611004.out) hb);have n1_:=Aside0.mk (Kd.R_below (by (with_reducible repeat (first|apply Kd.R_alloc|apply Kd.R_drewN|apply Kd.R_drew));exact HO620.out) hb);have n2_:=Aside0.mk (blk_below (g:=gb610) (o:=.cells #[.string t602,.int .i64 t603,.bool t604,.string t605,.slice Ao9 t606.length co9] 25 (0,0)) (by (with_reducible repeat (first|refine blk_drewN ?_ _|refine blk_drew ?_|refine blk_alloc ?_ _));exact BK610.out) hb);have n3_:=Aside0.mk (below_step (by repeat (first|(with_reducible first|exact HB.out|apply below_alloc|apply pw_below_drewN|apply below_drew1|refine below_set ?_ GE610.out)|exact HB.out)) hb);have n4_:=Aside0.mk (hbox);have n5_:=Aside0.mk ((by rw [hg];exact (below_size (by repeat (first|(with_reducible first|exact HB.out|apply below_alloc|apply pw_below_drewN|apply below_drew1|refine below_set ?_ GE610.out)|exact HB.out))) : w.heap.size ≤ gb622));have n6_:=Aside0.mk ((by rw [hg];exact (below_size (by repeat (first|(with_reducible first|exact HB.out|apply below_alloc|apply pw_below_drewN|apply below_drew1|refine below_set ?_ GE610.out)|exact HB.out))) : w.heap.size ≤ gb622));have n7_:=Aside0.mk ((by rw [hg];exact Nat.ne_of_lt (blk_lt (g:=gb610) (o:=.cells #[.string t602,.int .i64 t603,.bool t604,.string t605,.slice Ao9 t606.length co9] 25 (0,0)) (by (with_reducible repeat (first|refine blk_drewN ?_ _|refine blk_drew ?_|refine blk_alloc ?_ _));exact BK610.out)) : gb610 ≠ gb622));have n8_:=Aside0.mk ((by rw [hg];exact Nat.ne_of_gt (blk_lt (g:=gb610) (o:=.cells #[.string t602,.int .i64 t603,.bool t604,.string t605,.slice Ao9 t606.length co9] 25 (0,0)) (by (with_reducible repeat (first|refine blk_drewN ?_ _|refine blk_drew ?_|refine blk_alloc ?_ _));exact BK610.out)) : gb622 ≠ gb610));clear HO_611004;clear HO620;clear BK610;clear HB;have HO_611004:=n0_;have HO620:=n1_;have BK610:=n2_;have HB:=n3_;have BK622:=n4_;have GW622:=n5_;have GE622:=n6_;have NB610_622:=n7_;have NB622_610:=n8_;clear n0_ n1_ n2_ n3_ n4_ n5_ n6_ n7_ n8_;clear hb hbox hg;have hnb43:=NB622_610.out;have hnc43:=NB610_622.out;have hcz44_0 : w42.cell? ⟨gb622,0,none⟩ = some (.string (⟨#[]⟩ : ByteArray)):=(blk_cell BK622.out 0).trans rfl;have hcz44_1 : w42.cell? ⟨gb622,1,none⟩ = some (.int .i64 0):=(blk_cell BK622.out 1).trans rfl;have hcz44_2 : w42.cell? ⟨gb622,2,none⟩ = some (.bool false):=(blk_cell BK622.out 2).trans rfl;have hcz44_3 : w42.cell? ⟨gb622,3,none⟩ = some (.string (⟨#[]⟩ : ByteArray)):=(blk_cell BK622.out 3).trans rfl;have hcz44_4 : w42.cell? ⟨gb622,4,none⟩ = some (.slice none 0 0):=(blk_cell BK622.out 4).trans rfl;have hfz44_0:=blk_frozen BK622.out 0;have hfz44_1:=blk_frozen BK622.out 1;have hfz44_2:=blk_frozen BK622.out 2;have hfz44_3:=blk_frozen BK622.out 3;have hfz44_4:=blk_frozen BK622.out 4;obtain ⟨Ao45,co45,eo45⟩:=Kd.R_slice HO620.out;subst eo45))
              have n0_ : Aside0 (Kd.R k49 49 (((((w42.setCell ⟨gb622,0,none⟩ (.string t614)).setCell ⟨gb622,1,none⟩ (.int .i64 t615)).setCell ⟨gb622,2,none⟩ (.bool t616)).setCell ⟨gb622,3,none⟩ (.string t617)).setCell ⟨gb622,4,none⟩ (.slice Ao45 t618.length co45)) w.heap.size (fun k_ => some k_ ≠ (.slice Ao45 t618.length co45 : Value).ownBlock) (.slice Ao9 t606.length co9) t606):=⟨by (with_reducible repeat (first|apply Kd.R_alloc|apply Kd.R_drewN|apply Kd.R_drew));exact Kd.R_mono (Kd.R_far (p:=⟨gb622,4,none⟩) (Kd.R_far (p:=⟨gb622,3,none⟩) (Kd.R_far (p:=⟨gb622,2,none⟩) (Kd.R_far (p:=⟨gb622,1,none⟩) (Kd.R_far (p:=⟨gb622,0,none⟩) (Kd.R_types HO_611004.out BK622.out (by decide)) (fun _ hk => hk.2) (.string t614)) (fun _ hk => hk.2) (.int .i64 t615)) (fun _ hk => hk.2) (.bool t616)) (fun _ hk => hk.2) (.string t617)) (fun _ hk => hk.2) (.slice Ao45 t618.length co45)) (fun _ hk => hk.1.2)⟩
              have n1_ : Aside0 (Kd.R k49 49 (((((w42.setCell ⟨gb622,0,none⟩ (.string t614)).setCell ⟨gb622,1,none⟩ (.int .i64 t615)).setCell ⟨gb622,2,none⟩ (.bool t616)).setCell ⟨gb622,3,none⟩ (.string t617)).setCell ⟨gb622,4,none⟩ (.slice Ao45 t618.length co45)) w.heap.size (fun k_ => some k_ ≠ (.slice Ao9 t606.length co9 : Value).ownBlock) (.slice Ao45 t618.length co45) t618):=⟨by (with_reducible repeat (first|apply Kd.R_alloc|apply Kd.R_drewN|apply Kd.R_drew));exact Kd.R_mono (Kd.R_far (p:=⟨gb622,4,none⟩) (Kd.R_far (p:=⟨gb622,3,none⟩) (Kd.R_far (p:=⟨gb622,2,none⟩) (Kd.R_far (p:=⟨gb622,1,none⟩) (Kd.R_far (p:=⟨gb622,0,none⟩) (Kd.R_types HO620.out BK622.out (by decide)) (fun _ hk => hk.2) (.string t614)) (fun _ hk => hk.2) (.int .i64 t615)) (fun _ hk => hk.2) (.bool t616)) (fun _ hk => hk.2) (.string t617)) (fun _ hk => hk.2) (.slice Ao45 t618.length co45)) (fun _ hk => hk.1.2)⟩
              have n2_ : Aside0 ((((((w42.setCell ⟨gb622,0,none⟩ (.string t614)).setCell ⟨gb622,1,none⟩ (.int .i64 t615)).setCell ⟨gb622,2,none⟩ (.bool t616)).setCell ⟨gb622,3,none⟩ (.string t617)).setCell ⟨gb622,4,none⟩ (.slice Ao45 t618.length co45)).heap[gb610]? = some (.cells #[.string t602,.int .i64 t603,.bool t604,.string t605,.slice Ao9 t606.length co9] 25 (0,0))):=⟨by (with_reducible repeat (first|refine blk_drewN ?_ _|refine blk_drew ?_|refine blk_alloc ?_ _));refine blk_far ?_ NB610_622.out _;(with_reducible repeat (first|refine blk_drewN ?_ _|refine blk_drew ?_|refine blk_alloc ?_ _));refine blk_far ?_ NB610_622.out _;(with_reducible repeat (first|refine blk_drewN ?_ _|refine blk_drew ?_|refine blk_alloc ?_ _));refine blk_far ?_ NB610_622.out _;(with_reducible repeat (first|refine blk_drewN ?_ _|refine blk_drew ?_|refine blk_alloc ?_ _));refine blk_far ?_ NB610_622.out _;(with_reducible repeat (first|refine blk_drewN ?_ _|refine blk_drew ?_|refine blk_alloc ?_ _));refine blk_far ?_ NB610_622.out _;(with_reducible repeat (first|refine blk_drewN ?_ _|refine blk_drew ?_|refine blk_alloc ?_ _));exact BK610.out⟩
              have n3_ : Aside0 ((((((w42.setCell ⟨gb622,0,none⟩ (.string t614)).setCell ⟨gb622,1,none⟩ (.int .i64 t615)).setCell ⟨gb622,2,none⟩ (.bool t616)).setCell ⟨gb622,3,none⟩ (.string t617)).setCell ⟨gb622,4,none⟩ (.slice Ao45 t618.length co45)).heap[gb622]? = some (.cells #[.string t614,.int .i64 t615,.bool t616,.string t617,.slice Ao45 t618.length co45] 25 (0,0))):=⟨by (with_reducible repeat (first|refine blk_drewN ?_ _|refine blk_drew ?_|refine blk_alloc ?_ _));refine blk_put (cs:=#[.string t614,.int .i64 t615,.bool t616,.string t617,.slice none 0 0]) ?_ 4 _ rfl;(with_reducible repeat (first|refine blk_drewN ?_ _|refine blk_drew ?_|refine blk_alloc ?_ _));refine blk_put (cs:=#[.string t614,.int .i64 t615,.bool t616,.string (⟨#[]⟩ : ByteArray),.slice none 0 0]) ?_ 3 _ rfl;(with_reducible repeat (first|refine blk_drewN ?_ _|refine blk_drew ?_|refine blk_alloc ?_ _));refine blk_put (cs:=#[.string t614,.int .i64 t615,.bool false,.string (⟨#[]⟩ : ByteArray),.slice none 0 0]) ?_ 2 _ rfl;(with_reducible repeat (first|refine blk_drewN ?_ _|refine blk_drew ?_|refine blk_alloc ?_ _));refine blk_put (cs:=#[.string t614,.int .i64 0,.bool false,.string (⟨#[]⟩ : ByteArray),.slice none 0 0]) ?_ 1 _ rfl;(with_reducible repeat (first|refine blk_drewN ?_ _|refine blk_drew ?_|refine blk_alloc ?_ _));refine blk_put (cs:=#[.string (⟨#[]⟩ : ByteArray),.int .i64 0,.bool false,.string (⟨#[]⟩ : ByteArray),.slice none 0 0]) ?_ 0 _ rfl;(with_reducible repeat (first|refine blk_drewN ?_ _|refine blk_drew ?_|refine blk_alloc ?_ _));exact BK622.out⟩
              have n4_ : Aside0 (Below w.heap.size w (((((w42.setCell ⟨gb622,0,none⟩ (.string t614)).setCell ⟨gb622,1,none⟩ (.int .i64 t615)).setCell ⟨gb622,2,none⟩ (.bool t616)).setCell ⟨gb622,3,none⟩ (.string t617)).setCell ⟨gb622,4,none⟩ (.slice Ao45 t618.length co45))):=⟨by repeat (first|(with_reducible first|exact HB.out|apply below_alloc|apply pw_below_drewN|apply below_drew1|refine below_set ?_ GE610.out|refine below_set ?_ GE622.out)|exact HB.out)⟩
              (try clear HO_611004)
              (try clear HO620)
              (try clear BK610)
              (try clear BK622)
              (try clear HB)
              generalize (((((w42.setCell ⟨gb622,0,none⟩ (.string t614)).setCell ⟨gb622,1,none⟩ (.int .i64 t615)).setCell ⟨gb622,2,none⟩ (.bool t616)).setCell ⟨gb622,3,none⟩ (.string t617)).setCell ⟨gb622,4,none⟩ (.slice Ao45 t618.length co45)) = w46 at n0_ n1_ n2_ n3_ n4_ ⊢
              have HO_611004:=n0_
              have HO620:=n1_
              have BK610:=n2_
              have BK622:=n3_
              have HB:=n4_
              clear n0_ n1_ n2_ n3_ n4_
              have n0_:=Aside0.mk (Kd.R_drew HO_611004.out)
              have n1_:=Aside0.mk (Kd.R_drew HO620.out)
              have n2_:=Aside0.mk (blk_drew BK610.out)
              have n3_:=Aside0.mk (blk_drew BK622.out)
              have n4_:=Aside0.mk (below_drew1 HB.out)
              clear HO_611004
              clear HO620
              clear BK610
              clear BK622
              clear HB
              have HO_611004:=n0_
              have HO620:=n1_
              have BK610:=n2_
              have BK622:=n3_
              have HB:=n4_
              clear n0_ n1_ n2_ n3_ n4_
              have p623 : 0 ≤ ((ji22) : Int):=of_decide_eq_true (by first|(with_reducible assumption)|assumption)
              have q623 : (ji22) < (l0.length : Int):=of_decide_eq_true (by first|(with_reducible assumption)|assumption)
              obtain ⟨ad623,A623_4,c623_4,e623,hx623_0,hx623_1,hx623_2,hx623_3,hx623_4,hl623_4,hi623_4⟩:=at_T25 HR0.out (ji22) p623 q623
              have hw623_4:=hx623_4
              have hw623_3:=hx623_3
              have hw623_2:=hx623_2
              have hw623_1:=hx623_1
              have hw623_0:=hx623_0
              obtain rfl : ad601 = ad623:=(by injection e623)
              replace hx623_0:=(HB.out.cell (World.block_lt_of_cell? w _ hx623_0)).trans hx623_0
              replace hx623_1:=(HB.out.cell (World.block_lt_of_cell? w _ hx623_1)).trans hx623_1
              replace hx623_2:=(HB.out.cell (World.block_lt_of_cell? w _ hx623_2)).trans hx623_2
              replace hx623_3:=(HB.out.cell (World.block_lt_of_cell? w _ hx623_3)).trans hx623_3
              replace hx623_4:=(HB.out.cell (World.block_lt_of_cell? w _ hx623_4)).trans hx623_4
              have HR623_4:=Aside0.mk hi623_4
              have HC623_4:=Aside0.mk hl623_4
              clear hi623_4 hl623_4
              replace p623:=eq_true p623
              replace q623:=eq_true q623
              have p624 : 0 ≤ (x3_1 : Int):=of_decide_eq_true (by first|(with_reducible assumption)|assumption)
              have q624 : x3_1 < (l0.length : Int):=of_decide_eq_true (by first|(with_reducible assumption)|assumption)
              obtain ⟨ad624,A624_4,c624_4,e624,hx624_0,hx624_1,hx624_2,hx624_3,hx624_4,hl624_4,hi624_4⟩:=at_T25 HR0.out x3_1 p624 q624
              have hw624_4:=hx624_4
              have hw624_3:=hx624_3
              have hw624_2:=hx624_2
              have hw624_1:=hx624_1
              have hw624_0:=hx624_0
              obtain rfl : ad601 = ad624:=(by injection e624)
              replace hx624_0:=(HB.out.cell (World.block_lt_of_cell? w _ hx624_0)).trans hx624_0
              replace hx624_1:=(HB.out.cell (World.block_lt_of_cell? w _ hx624_1)).trans hx624_1
              replace hx624_2:=(HB.out.cell (World.block_lt_of_cell? w _ hx624_2)).trans hx624_2
              replace hx624_3:=(HB.out.cell (World.block_lt_of_cell? w _ hx624_3)).trans hx624_3
              replace hx624_4:=(HB.out.cell (World.block_lt_of_cell? w _ hx624_4)).trans hx624_4
              have HR624_4:=Aside0.mk hi624_4
              have HC624_4:=Aside0.mk hl624_4
              clear hi624_4 hl624_4
              replace p624:=eq_true p624
              replace q624:=eq_true q624
              refine start_ (n:=23) (S:=fun w' => w'.cell? (ad601.add (((ji22)).toNat * 5)) = some (.string ((rd_T25 l0 (ji22)).f0)) ∧ w'.cell? ⟨(ad601.add (((ji22)).toNat * 5)).block,(ad601.add (((ji22)).toNat * 5)).off + 1,none⟩ = some (.int .i64 ((rd_T25 l0 (ji22)).f1)) ∧ w'.cell? ⟨(ad601.add (((ji22)).toNat * 5)).block,(ad601.add (((ji22)).toNat * 5)).off + 2,none⟩ = some (.bool ((rd_T25 l0 (ji22)).f2)) ∧ w'.cell? ⟨(ad601.add (((ji22)).toNat * 5)).block,(ad601.add (((ji22)).toNat * 5)).off + 3,none⟩ = some (.string ((rd_T25 l0 (ji22)).f3)) ∧ w'.cell? ⟨(ad601.add (((ji22)).toNat * 5)).block,(ad601.add (((ji22)).toNat * 5)).off + 4,none⟩ = some (.slice A623_4 ((rd_T25 l0 (ji22)).f4).length c623_4) ∧ w'.cell? (ad601.add ((x3_1).toNat * 5)) = some (.string ((rd_T25 l0 x3_1).f0)) ∧ w'.cell? ⟨(ad601.add ((x3_1).toNat * 5)).block,(ad601.add ((x3_1).toNat * 5)).off + 1,none⟩ = some (.int .i64 ((rd_T25 l0 x3_1).f1)) ∧ w'.cell? ⟨(ad601.add ((x3_1).toNat * 5)).block,(ad601.add ((x3_1).toNat * 5)).off + 2,none⟩ = some (.bool ((rd_T25 l0 x3_1).f2)) ∧ w'.cell? ⟨(ad601.add ((x3_1).toNat * 5)).block,(ad601.add ((x3_1).toNat * 5)).off + 3,none⟩ = some (.string ((rd_T25 l0 x3_1).f3)) ∧ w'.cell? ⟨(ad601.add ((x3_1).toNat * 5)).block,(ad601.add ((x3_1).toNat * 5)).off + 4,none⟩ = some (.slice A624_4 ((rd_T25 l0 x3_1).f4).length c624_4)) (ds:=[]) #[false,false,false,false,false,false,false,false,false,false,false,false,false,false,false,false,false,false,false,false,false,false,false] (by kernel_rfl) rfl rfl ⟨((HB.out.cell (World.block_lt_of_cell? w _ hw623_0)).trans hw623_0),((HB.out.cell (World.block_lt_of_cell? w _ hw623_1)).trans hw623_1),((HB.out.cell (World.block_lt_of_cell? w _ hw623_2)).trans hw623_2),((HB.out.cell (World.block_lt_of_cell? w _ hw623_3)).trans hw623_3),((HB.out.cell (World.block_lt_of_cell? w _ hw623_4)).trans hw623_4),((HB.out.cell (World.block_lt_of_cell? w _ hw624_0)).trans hw624_0),((HB.out.cell (World.block_lt_of_cell? w _ hw624_1)).trans hw624_1),((HB.out.cell (World.block_lt_of_cell? w _ hw624_2)).trans hw624_2),((HB.out.cell (World.block_lt_of_cell? w _ hw624_3)).trans hw624_3),((HB.out.cell (World.block_lt_of_cell? w _ hw624_4)).trans hw624_4)⟩ (fun hHeld => ?_);refine with_tabW cofferlaw14_told.tab8 cofferlaw14_told.bits8 (fun HT_ HW_ => ?_)
              generalize w46.drew = w47 at HO_611004 HO620 BK610 BK622 HB HR623_4 HR624_4 hx623_0 hx623_1 hx623_2 hx623_3 hx623_4 hx624_0 hx624_1 hx624_2 hx624_3 hx624_4 hHeld ⊢
              refine pure_ (i:=0) (N:=some 49) (v:=?_) (a':=?_) #[true,false,false,false,false,false,false,false,false,false,false,false,false,false,false,false,false,false,false,false,false,false,false] rfl rfl (any_of HT_.out (by kernel_rfl)) (fun _ _ _ h => h) (Or.inl ⟨by rfl,?_⟩) ?_ ?_
              rotate_left
              ·intro w'
               go_simp
               with_reducible rfl
              rotate_left
              ·simp only [Act.put,List.setIfInBounds_toArray,List.set_cons_zero,List.set_cons_succ,i64_w,i32_w]
               rfl
              refine pure_ (i:=1) (N:=some 50) (v:=?_) (a':=?_) #[true,true,false,false,false,false,false,false,false,false,false,false,false,false,false,false,false,false,false,false,false,false,false] rfl rfl (any_of HT_.out (by kernel_rfl)) (fun _ _ _ h => h) (Or.inl ⟨by rfl,?_⟩) ?_ ?_
              rotate_left
              ·intro w'
               go_simp
               with_reducible rfl
              rotate_left
              ·simp only [Act.put,List.setIfInBounds_toArray,List.set_cons_zero,List.set_cons_succ,i64_w,i32_w]
               rfl
              refine pure_ (i:=2) (N:=some 51) (v:=?_) (a':=?_) #[true,true,true,false,false,false,false,false,false,false,false,false,false,false,false,false,false,false,false,false,false,false,false] rfl rfl (any_of HT_.out (by kernel_rfl)) (fun _ _ _ h => h) (Or.inl ⟨by rfl,?_⟩) ?_ ?_
              rotate_left
              ·intro w'
               go_simp
               with_reducible rfl
              rotate_left
              ·simp only [Act.put,List.setIfInBounds_toArray,List.set_cons_zero,List.set_cons_succ,i64_w,i32_w]
               rfl
              refine pure_ (i:=3) (N:=some 52) (v:=?_) (a':=?_) #[true,true,true,true,false,false,false,false,false,false,false,false,false,false,false,false,false,false,false,false,false,false,false] rfl rfl (any_of HT_.out (by kernel_rfl)) (fun _ _ _ h => h) (Or.inl ⟨by rfl,?_⟩) ?_ ?_
              rotate_left
              ·intro w'
               go_simp
               with_reducible rfl
              rotate_left
              ·simp only [Act.put,List.setIfInBounds_toArray,List.set_cons_zero,List.set_cons_succ,i64_w,i32_w]
               rfl
              refine pure_ (i:=4) (N:=some 53) (v:=?_) (a':=?_) #[true,true,true,true,true,false,false,false,false,false,false,false,false,false,false,false,false,false,false,false,false,false,false] rfl rfl (any_of HT_.out (by kernel_rfl)) (fun _ _ _ h => h) (Or.inl ⟨by rfl,?_⟩) ?_ ?_
              rotate_left
              ·intro w'
               go_simp
               with_reducible rfl
              rotate_left
              ·simp only [Act.put,List.setIfInBounds_toArray,List.set_cons_zero,List.set_cons_succ,i64_w,i32_w]
               rfl
              refine pure_ (i:=5) (N:=some 54) (v:=?_) (a':=?_) #[true,true,true,true,true,true,false,false,false,false,false,false,false,false,false,false,false,false,false,false,false,false,false] rfl rfl (any_of HT_.out (by kernel_rfl)) (fun _ _ _ h => h) (Or.inl ⟨by rfl,?_⟩) ?_ ?_
              rotate_left
              ·intro w'
               go_simp
               with_reducible rfl
              rotate_left
              ·simp only [Act.put,List.setIfInBounds_toArray,List.set_cons_zero,List.set_cons_succ,i64_w,i32_w]
               rfl
              refine pure_ (i:=6) (N:=some 55) (v:=?_) (a':=?_) #[true,true,true,true,true,true,true,false,false,false,false,false,false,false,false,false,false,false,false,false,false,false,false] rfl rfl (any_of HT_.out (by kernel_rfl)) (fun _ _ _ h => h) (Or.inl ⟨by rfl,?_⟩) ?_ ?_
              rotate_left
              ·intro w'
               go_simp
               with_reducible rfl
              rotate_left
              ·simp only [Act.put,List.setIfInBounds_toArray,List.set_cons_zero,List.set_cons_succ,i64_w,i32_w]
               rfl
              refine pure_ (i:=7) (N:=some 56) (v:=?_) (a':=?_) #[true,true,true,true,true,true,true,true,false,false,false,false,false,false,false,false,false,false,false,false,false,false,false] rfl rfl (any_of HT_.out (by kernel_rfl)) (fun _ _ _ h => h) (Or.inl ⟨by rfl,?_⟩) ?_ ?_
              rotate_left
              ·intro w'
               go_simp
               with_reducible rfl
              rotate_left
              ·simp only [Act.put,List.setIfInBounds_toArray,List.set_cons_zero,List.set_cons_succ,i64_w,i32_w]
               rfl
              refine pure_ (i:=8) (N:=some 57) (v:=?_) (a':=?_) #[true,true,true,true,true,true,true,true,true,false,false,false,false,false,false,false,false,false,false,false,false,false,false] rfl rfl (any_of HT_.out (by kernel_rfl)) (fun _ _ _ h => h) (Or.inl ⟨by rfl,?_⟩) ?_ ?_
              rotate_left
              ·intro w'
               go_simp
               with_reducible rfl
              rotate_left
              ·simp only [Act.put,List.setIfInBounds_toArray,List.set_cons_zero,List.set_cons_succ,i64_w,i32_w]
               rfl
              refine pure_ (i:=9) (N:=some 58) (v:=?_) (a':=?_) #[true,true,true,true,true,true,true,true,true,true,false,false,false,false,false,false,false,false,false,false,false,false,false] rfl rfl (any_of HT_.out (by kernel_rfl)) (fun _ _ _ h => h) (Or.inl ⟨by rfl,?_⟩) ?_ ?_
              rotate_left
              ·intro w'
               go_simp
               with_reducible rfl
              rotate_left
              ·simp only [Act.put,List.setIfInBounds_toArray,List.set_cons_zero,List.set_cons_succ,i64_w,i32_w]
               rfl
              refine pure_ (i:=10) (N:=some 59) (v:=?_) (a':=?_) #[true,true,true,true,true,true,true,true,true,true,true,false,false,false,false,false,false,false,false,false,false,false,false] rfl rfl (any_of HT_.out (by kernel_rfl)) (fun _ _ _ h => h) (Or.inl ⟨by rfl,?_⟩) ?_ ?_
              rotate_left
              ·intro w'
               go_simp
               with_reducible rfl
              rotate_left
              ·simp only [Act.put,List.setIfInBounds_toArray,List.set_cons_zero,List.set_cons_succ,i64_w,i32_w]
               rfl
              refine pure_ (i:=11) (N:=some 60) (v:=?_) (a':=?_) #[true,true,true,true,true,true,true,true,true,true,true,true,false,false,false,false,false,false,false,false,false,false,false] rfl rfl (any_of HT_.out (by kernel_rfl)) (fun _ _ _ h => h) (Or.inl ⟨by rfl,?_⟩) ?_ ?_
              rotate_left
              ·intro w'
               go_simp
               with_reducible rfl
              rotate_left
              ·simp only [Act.put,List.setIfInBounds_toArray,List.set_cons_zero,List.set_cons_succ,i64_w,i32_w]
               rfl
              refine pure_ (i:=12) (N:=some 61) (v:=?_) (a':=?_) #[true,true,true,true,true,true,true,true,true,true,true,true,true,false,false,false,false,false,false,false,false,false,false] rfl rfl (any_of HT_.out (by kernel_rfl)) (fun _ _ _ h => h) (Or.inl ⟨by rfl,?_⟩) ?_ ?_
              rotate_left
              ·intro w'
               go_simp
               with_reducible rfl
              rotate_left
              ·simp only [Act.put,List.setIfInBounds_toArray,List.set_cons_zero,List.set_cons_succ,i64_w,i32_w]
               rfl
              refine pure_ (i:=14) (N:=some 63) (v:=?_) (a':=?_) #[true,true,true,true,true,true,true,true,true,true,true,true,true,false,true,false,false,false,false,false,false,false,false] rfl rfl (any_of HT_.out (by kernel_rfl)) (fun _ _ _ h => h) (Or.inl ⟨by rfl,?_⟩) ?_ ?_
              rotate_left
              ·intro w'
               go_simp
               with_reducible rfl
              rotate_left
              ·simp only [Act.put,List.setIfInBounds_toArray,List.set_cons_zero,List.set_cons_succ,i64_w,i32_w]
               rfl
              refine pure_ (i:=15) (N:=some 64) (v:=?_) (a':=?_) #[true,true,true,true,true,true,true,true,true,true,true,true,true,false,true,true,false,false,false,false,false,false,false] rfl rfl (any_of HT_.out (by kernel_rfl)) (fun _ _ _ h => h) (Or.inl ⟨by rfl,?_⟩) ?_ ?_
              rotate_left
              ·intro w'
               go_simp
               with_reducible rfl
              rotate_left
              ·simp only [Act.put,List.setIfInBounds_toArray,List.set_cons_zero,List.set_cons_succ,i64_w,i32_w]
               rfl
              refine pure_ (i:=16) (N:=some 65) (v:=?_) (a':=?_) #[true,true,true,true,true,true,true,true,true,true,true,true,true,false,true,true,true,false,false,false,false,false,false] rfl rfl (any_of HT_.out (by kernel_rfl)) (fun _ _ _ h => h) (Or.inl ⟨by rfl,?_⟩) ?_ ?_
              rotate_left
              ·intro w'
               go_simp
               with_reducible rfl
              rotate_left
              ·simp only [Act.put,List.setIfInBounds_toArray,List.set_cons_zero,List.set_cons_succ,i64_w,i32_w]
               rfl
              refine pure_ (i:=17) (N:=some 66) (v:=?_) (a':=?_) #[true,true,true,true,true,true,true,true,true,true,true,true,true,false,true,true,true,true,false,false,false,false,false] rfl rfl (any_of HT_.out (by kernel_rfl)) (fun _ _ _ h => h) (Or.inl ⟨by rfl,?_⟩) ?_ ?_
              rotate_left
              ·intro w'
               go_simp
               with_reducible rfl
              rotate_left
              ·simp only [Act.put,List.setIfInBounds_toArray,List.set_cons_zero,List.set_cons_succ,i64_w,i32_w]
               rfl
              refine take_ (i:=13) (N:=some 62) (v:=?_) (a':=?_) #[true,true,true,true,true,true,true,true,true,true,true,true,true,true,true,true,true,true,false,false,false,false,false] rfl rfl (take_ofW HT_.out HW_.out (by kernel_rfl)) (fun _ _ _ h => h) (Or.inl ⟨by rfl,?_⟩) hHeld ?_ ?_
              rotate_left
              ·rintro w' ⟨s0,s1,s2,s3,s4,s5,s6,s7,s8,s9⟩
               go_simp
               with_reducible rfl
              rotate_left
              ·simp only [Act.put,List.setIfInBounds_toArray,List.set_cons_zero,List.set_cons_succ,i64_w,i32_w]
               rfl
              refine take_ (i:=18) (N:=some 67) (v:=?_) (a':=?_) #[true,true,true,true,true,true,true,true,true,true,true,true,true,true,true,true,true,true,true,false,false,false,false] rfl rfl (take_ofW HT_.out HW_.out (by kernel_rfl)) (fun _ _ _ h => h) (Or.inl ⟨by rfl,?_⟩) hHeld ?_ ?_
              rotate_left
              ·rintro w' ⟨s0,s1,s2,s3,s4,s5,s6,s7,s8,s9⟩
               go_simp
               with_reducible rfl
              rotate_left
              ·simp only [Act.put,List.setIfInBounds_toArray,List.set_cons_zero,List.set_cons_succ,i64_w,i32_w]
               rfl
              refine pure_ (i:=19) (N:=some 68) (v:=?_) (a':=?_) #[true,true,true,true,true,true,true,true,true,true,true,true,true,true,true,true,true,true,true,true,false,false,false] rfl rfl (any_of HT_.out (by kernel_rfl)) (fun _ _ _ h => h) (Or.inl ⟨by rfl,?_⟩) ?_ ?_
              rotate_left
              ·intro w'
               go_simp
               with_reducible rfl
              rotate_left
              ·simp only [Act.put,List.setIfInBounds_toArray,List.set_cons_zero,List.set_cons_succ,i64_w,i32_w]
               rfl
              refine pure_ (i:=20) (N:=some 69) (v:=?_) (a':=?_) #[true,true,true,true,true,true,true,true,true,true,true,true,true,true,true,true,true,true,true,true,true,false,false] rfl rfl (any_of HT_.out (by kernel_rfl)) (fun _ _ _ h => h) (Or.inl ⟨by rfl,?_⟩) ?_ ?_
              rotate_left
              ·intro w'
               go_simp
               with_reducible rfl
              rotate_left
              ·simp only [Act.put,List.setIfInBounds_toArray,List.set_cons_zero,List.set_cons_succ,i64_w,i32_w]
               rfl
              refine pure_ (i:=21) (N:=some 70) (v:=?_) (a':=?_) #[true,true,true,true,true,true,true,true,true,true,true,true,true,true,true,true,true,true,true,true,true,true,false] rfl rfl (any_of HT_.out (by kernel_rfl)) (fun _ _ _ h => h) (Or.inl ⟨by rfl,?_⟩) ?_ ?_
              rotate_left
              ·intro w'
               go_simp
               with_reducible rfl
              rotate_left
              ·simp only [Act.put,List.setIfInBounds_toArray,List.set_cons_zero,List.set_cons_succ,i64_w,i32_w]
               rfl
              refine pure_ (i:=22) (N:=some 71) (v:=?_) (a':=?_) #[true,true,true,true,true,true,true,true,true,true,true,true,true,true,true,true,true,true,true,true,true,true,true] rfl rfl (any_of HT_.out (by kernel_rfl)) (fun _ _ _ h => h) (Or.inl ⟨by rfl,?_⟩) ?_ ?_
              rotate_left
              ·intro w'
               go_simp
               with_reducible rfl
              rotate_left
              ·simp only [Act.put,List.setIfInBounds_toArray,List.set_cons_zero,List.set_cons_succ,i64_w,i32_w]
               rfl
              refine done_ (done_of HT_.out (by kernel_rfl)) ?_
              try go_wp2
              go_ret
              exact ⟨by first|rfl|(simp [errW_none,errW_some] <;> rfl)|(simp only [← hji22];first|rfl|(simp [errW_none,errW_some] <;> rfl))|(simp [*,errW_none,errW_some] <;> rfl),by repeat (first|(with_reducible first|exact HB.out|apply below_alloc|apply pw_below_drewN|apply below_drew1|refine below_set ?_ GE610.out|refine below_set ?_ GE622.out)|exact HB.out)⟩
             ·rw [if_neg c40] at H
              have c40b0 : (((rd_T25 l0 (ji22)).f1) == (wrap64 (((rd_T25 l0 x3_1).f1) + 1))) = false:=beq_eq_false_iff_ne.mpr c40
              have c40b1 : (((rd_T25 l0 (ji22)).f1) != (wrap64 (((rd_T25 l0 x3_1).f1) + 1))) = true:=bne_iff_ne.mpr c40
              have H':=Aside0.mk H
              clear H
              have p613 : 0 ≤ (x3_1 : Int):=of_decide_eq_true (by first|(with_reducible assumption)|assumption)
              have q613 : x3_1 < (l0.length : Int):=of_decide_eq_true (by first|(with_reducible assumption)|assumption)
              obtain ⟨ad613,A613_4,c613_4,e613,hx613_0,hx613_1,hx613_2,hx613_3,hx613_4,hl613_4,hi613_4⟩:=at_T25 HR0.out x3_1 p613 q613
              obtain rfl : ad601 = ad613:=(by injection e613)
              replace hx613_0:=(HB.out.cell (World.block_lt_of_cell? w _ hx613_0)).trans hx613_0
              replace hx613_1:=(HB.out.cell (World.block_lt_of_cell? w _ hx613_1)).trans hx613_1
              replace hx613_2:=(HB.out.cell (World.block_lt_of_cell? w _ hx613_2)).trans hx613_2
              replace hx613_3:=(HB.out.cell (World.block_lt_of_cell? w _ hx613_3)).trans hx613_3
              replace hx613_4:=(HB.out.cell (World.block_lt_of_cell? w _ hx613_4)).trans hx613_4
              have HR613_4:=Aside0.mk hi613_4
              have HC613_4:=Aside0.mk hl613_4
              clear hi613_4 hl613_4
              replace p613:=eq_true p613
              replace q613:=eq_true q613
              try go_wp2_with (first|((with_reducible refine gate_callee (f:=31) rfl ?_);refine goesL_ (some 46) rfl rfl Try.func31 (by kernel_rfl) rfl #[.slice (some ad601) l0.length c0,.int .i64 (wrap64 (((rd_T25 l0 x3_1).f1) + 1))] rfl (by (try simp only [List.map_toArray,List.map_cons,List.map_nil]);first|done|rfl|(simp only [List.length_drop,List.length_take];rfl)) ?_;(with_reducible refine (stack_Get.calls _ _ l0 (wrap64 (((rd_T25 l0 x3_1).f1) + 1)) t614 t615 t616 t617 t618 t621 _ ?side1 ?side2 A20.out).mono ?_);(case side1 => repeat (first|exact (Kd.C_below HR0.out HB.out)|(with_reducible refine Kd.C_alloc ?_ _)|(with_reducible refine Kd.C_drewN ?_ _)|(with_reducible refine Kd.C_drew ?_)));(case side2 => exact HC0.out);rintro e w48 ⟨v619,rfl,ho0,hb⟩;refine ⟨_,rfl,?_⟩;have n0_:=Aside0.mk (Kd.R_elder' (by (with_reducible repeat (first|apply Kd.R_alloc|apply Kd.R_drewN|apply Kd.R_drew));exact HO_611004.out) (Kd.R_base ho0) hb);have n1_:=Aside0.mk (Kd.R_lower (Kd.R_new' ho0 (Kd.R_lt (by (with_reducible repeat (first|apply Kd.R_alloc|apply Kd.R_drewN|apply Kd.R_drew));exact HO_611004.out))) (below_size (by repeat (first|(with_reducible first|exact HB.out|apply below_alloc|apply pw_below_drewN|apply below_drew1|refine below_set ?_ GE610.out)|exact HB.out))));have n2_:=Aside0.mk (blk_below (g:=gb610) (o:=.cells #[.string t602,.int .i64 t603,.bool t604,.string t605,.slice Ao9 t606.length co9] 25 (0,0)) (by (with_reducible repeat (first|refine blk_drewN ?_ _|refine blk_drew ?_|refine blk_alloc ?_ _));exact BK610.out) hb);have n3_:=Aside0.mk (below_step (by repeat (first|(with_reducible first|exact HB.out|apply below_alloc|apply pw_below_drewN|apply below_drew1|refine below_set ?_ GE610.out)|exact HB.out)) hb);clear HO_611004;clear BK610;clear HB;have HO_611004:=n0_;have HO620:=n1_;have BK610:=n2_;have HB:=n3_;clear n0_ n1_ n2_ n3_;(try clear hb);(try clear hb2);(try clear hk);(try clear hi);(try clear ho0))|((with_reducible refine gate_dst (N:=6) rfl ?_);refine box_event ?hg (N:=6) ?hd (cs:=#[.string (⟨#[]⟩ : ByteArray),.int .i64 0,.bool false,.string (⟨#[]⟩ : ByteArray),.slice none 0 0]) (t:=25) ?hr ?_;(case hd => rfl);(case hg => rfl);(case hr => first|(go_simp;done)|(go_simp;rfl));intro gb622 hg w49 hbox hb;have n0_:=Aside0.mk (Kd.R_below (by (with_reducible repeat (first|apply Kd.R_alloc|apply Kd.R_drewN|apply Kd.R_drew));exact HO_611004.out) hb);have n1_:=Aside0.mk (Kd.R_below (by (with_reducible repeat (first|apply Kd.R_alloc|apply Kd.R_drewN|apply Kd.R_drew));exact HO620.out) hb);have n2_:=Aside0.mk (blk_below (g:=gb610) (o:=.cells #[.string t602,.int .i64 t603,.bool t604,.string t605,.slice Ao9 t606.length co9] 25 (0,0)) (by (with_reducible repeat (first|refine blk_drewN ?_ _|refine blk_drew ?_|refine blk_alloc ?_ _));exact BK610.out) hb);have n3_:=Aside0.mk (below_step (by repeat (first|(with_reducible first|exact HB.out|apply below_alloc|apply pw_below_drewN|apply below_drew1|refine below_set ?_ GE610.out)|exact HB.out)) hb);have n4_:=Aside0.mk (hbox);have n5_:=Aside0.mk ((by rw [hg];exact (below_size (by repeat (first|(with_reducible first|exact HB.out|apply below_alloc|apply pw_below_drewN|apply below_drew1|refine below_set ?_ GE610.out)|exact HB.out))) : w.heap.size ≤ gb622));have n6_:=Aside0.mk ((by rw [hg];exact (below_size (by repeat (first|(with_reducible first|exact HB.out|apply below_alloc|apply pw_below_drewN|apply below_drew1|refine below_set ?_ GE610.out)|exact HB.out))) : w.heap.size ≤ gb622));have n7_:=Aside0.mk ((by rw [hg];exact Nat.ne_of_lt (blk_lt (g:=gb610) (o:=.cells #[.string t602,.int .i64 t603,.bool t604,.string t605,.slice Ao9 t606.length co9] 25 (0,0)) (by (with_reducible repeat (first|refine blk_drewN ?_ _|refine blk_drew ?_|refine blk_alloc ?_ _));exact BK610.out)) : gb610 ≠ gb622));have n8_:=Aside0.mk ((by rw [hg];exact Nat.ne_of_gt (blk_lt (g:=gb610) (o:=.cells #[.string t602,.int .i64 t603,.bool t604,.string t605,.slice Ao9 t606.length co9] 25 (0,0)) (by (with_reducible repeat (first|refine blk_drewN ?_ _|refine blk_drew ?_|refine blk_alloc ?_ _));exact BK610.out)) : gb622 ≠ gb610));clear HO_611004;clear HO620;clear BK610;clear HB;have HO_611004:=n0_;have HO620:=n1_;have BK610:=n2_;have HB:=n3_;have BK622:=n4_;have GW622:=n5_;have GE622:=n6_;have NB610_622:=n7_;have NB622_610:=n8_;clear n0_ n1_ n2_ n3_ n4_ n5_ n6_ n7_ n8_;clear hb hbox hg;have hnb50:=NB622_610.out;have hnc50:=NB610_622.out;have hcz51_0 : w49.cell? ⟨gb622,0,none⟩ = some (.string (⟨#[]⟩ : ByteArray)):=(blk_cell BK622.out 0).trans rfl;have hcz51_1 : w49.cell? ⟨gb622,1,none⟩ = some (.int .i64 0):=(blk_cell BK622.out 1).trans rfl;have hcz51_2 : w49.cell? ⟨gb622,2,none⟩ = some (.bool false):=(blk_cell BK622.out 2).trans rfl;have hcz51_3 : w49.cell? ⟨gb622,3,none⟩ = some (.string (⟨#[]⟩ : ByteArray)):=(blk_cell BK622.out 3).trans rfl;have hcz51_4 : w49.cell? ⟨gb622,4,none⟩ = some (.slice none 0 0):=(blk_cell BK622.out 4).trans rfl;have hfz51_0:=blk_frozen BK622.out 0;have hfz51_1:=blk_frozen BK622.out 1;have hfz51_2:=blk_frozen BK622.out 2;have hfz51_3:=blk_frozen BK622.out 3;have hfz51_4:=blk_frozen BK622.out 4;obtain ⟨Ao52,co52,eo52⟩:=Kd.R_slice HO620.out;subst eo52))
              have n0_ : Aside0 (Kd.R k49 49 (((((w49.setCell ⟨gb622,0,none⟩ (.string t614)).setCell ⟨gb622,1,none⟩ (.int .i64 t615)).setCell ⟨gb622,2,none⟩ (.bool t616)).setCell ⟨gb622,3,none⟩ (.string t617)).setCell ⟨gb622,4,none⟩ (.slice Ao52 t618.length co52)) w.heap.size (fun k_ => some k_ ≠ (.slice Ao52 t618.length co52 : Value).ownBlock) (.slice Ao9 t606.length co9) t606):=⟨by (with_reducible repeat (first|apply Kd.R_alloc|apply Kd.R_drewN|apply Kd.R_drew));exact Kd.R_mono (Kd.R_far (p:=⟨gb622,4,none⟩) (Kd.R_far (p:=⟨gb622,3,none⟩) (Kd.R_far (p:=⟨gb622,2,none⟩) (Kd.R_far (p:=⟨gb622,1,none⟩) (Kd.R_far (p:=⟨gb622,0,none⟩) (Kd.R_types HO_611004.out BK622.out (by decide)) (fun _ hk => hk.2) (.string t614)) (fun _ hk => hk.2) (.int .i64 t615)) (fun _ hk => hk.2) (.bool t616)) (fun _ hk => hk.2) (.string t617)) (fun _ hk => hk.2) (.slice Ao52 t618.length co52)) (fun _ hk => hk.1.2)⟩
              have n1_ : Aside0 (Kd.R k49 49 (((((w49.setCell ⟨gb622,0,none⟩ (.string t614)).setCell ⟨gb622,1,none⟩ (.int .i64 t615)).setCell ⟨gb622,2,none⟩ (.bool t616)).setCell ⟨gb622,3,none⟩ (.string t617)).setCell ⟨gb622,4,none⟩ (.slice Ao52 t618.length co52)) w.heap.size (fun k_ => some k_ ≠ (.slice Ao9 t606.length co9 : Value).ownBlock) (.slice Ao52 t618.length co52) t618):=⟨by (with_reducible repeat (first|apply Kd.R_alloc|apply Kd.R_drewN|apply Kd.R_drew));exact Kd.R_mono (Kd.R_far (p:=⟨gb622,4,none⟩) (Kd.R_far (p:=⟨gb622,3,none⟩) (Kd.R_far (p:=⟨gb622,2,none⟩) (Kd.R_far (p:=⟨gb622,1,none⟩) (Kd.R_far (p:=⟨gb622,0,none⟩) (Kd.R_types HO620.out BK622.out (by decide)) (fun _ hk => hk.2) (.string t614)) (fun _ hk => hk.2) (.int .i64 t615)) (fun _ hk => hk.2) (.bool t616)) (fun _ hk => hk.2) (.string t617)) (fun _ hk => hk.2) (.slice Ao52 t618.length co52)) (fun _ hk => hk.1.2)⟩
              have n2_ : Aside0 ((((((w49.setCell ⟨gb622,0,none⟩ (.string t614)).setCell ⟨gb622,1,none⟩ (.int .i64 t615)).setCell ⟨gb622,2,none⟩ (.bool t616)).setCell ⟨gb622,3,none⟩ (.string t617)).setCell ⟨gb622,4,none⟩ (.slice Ao52 t618.length co52)).heap[gb610]? = some (.cells #[.string t602,.int .i64 t603,.bool t604,.string t605,.slice Ao9 t606.length co9] 25 (0,0))):=⟨by (with_reducible repeat (first|refine blk_drewN ?_ _|refine blk_drew ?_|refine blk_alloc ?_ _));refine blk_far ?_ NB610_622.out _;(with_reducible repeat (first|refine blk_drewN ?_ _|refine blk_drew ?_|refine blk_alloc ?_ _));refine blk_far ?_ NB610_622.out _;(with_reducible repeat (first|refine blk_drewN ?_ _|refine blk_drew ?_|refine blk_alloc ?_ _));refine blk_far ?_ NB610_622.out _;(with_reducible repeat (first|refine blk_drewN ?_ _|refine blk_drew ?_|refine blk_alloc ?_ _));refine blk_far ?_ NB610_622.out _;(with_reducible repeat (first|refine blk_drewN ?_ _|refine blk_drew ?_|refine blk_alloc ?_ _));refine blk_far ?_ NB610_622.out _;(with_reducible repeat (first|refine blk_drewN ?_ _|refine blk_drew ?_|refine blk_alloc ?_ _));exact BK610.out⟩
              have n3_ : Aside0 ((((((w49.setCell ⟨gb622,0,none⟩ (.string t614)).setCell ⟨gb622,1,none⟩ (.int .i64 t615)).setCell ⟨gb622,2,none⟩ (.bool t616)).setCell ⟨gb622,3,none⟩ (.string t617)).setCell ⟨gb622,4,none⟩ (.slice Ao52 t618.length co52)).heap[gb622]? = some (.cells #[.string t614,.int .i64 t615,.bool t616,.string t617,.slice Ao52 t618.length co52] 25 (0,0))):=⟨by (with_reducible repeat (first|refine blk_drewN ?_ _|refine blk_drew ?_|refine blk_alloc ?_ _));refine blk_put (cs:=#[.string t614,.int .i64 t615,.bool t616,.string t617,.slice none 0 0]) ?_ 4 _ rfl;(with_reducible repeat (first|refine blk_drewN ?_ _|refine blk_drew ?_|refine blk_alloc ?_ _));refine blk_put (cs:=#[.string t614,.int .i64 t615,.bool t616,.string (⟨#[]⟩ : ByteArray),.slice none 0 0]) ?_ 3 _ rfl;(with_reducible repeat (first|refine blk_drewN ?_ _|refine blk_drew ?_|refine blk_alloc ?_ _));refine blk_put (cs:=#[.string t614,.int .i64 t615,.bool false,.string (⟨#[]⟩ : ByteArray),.slice none 0 0]) ?_ 2 _ rfl;(with_reducible repeat (first|refine blk_drewN ?_ _|refine blk_drew ?_|refine blk_alloc ?_ _));refine blk_put (cs:=#[.string t614,.int .i64 0,.bool false,.string (⟨#[]⟩ : ByteArray),.slice none 0 0]) ?_ 1 _ rfl;(with_reducible repeat (first|refine blk_drewN ?_ _|refine blk_drew ?_|refine blk_alloc ?_ _));refine blk_put (cs:=#[.string (⟨#[]⟩ : ByteArray),.int .i64 0,.bool false,.string (⟨#[]⟩ : ByteArray),.slice none 0 0]) ?_ 0 _ rfl;(with_reducible repeat (first|refine blk_drewN ?_ _|refine blk_drew ?_|refine blk_alloc ?_ _));exact BK622.out⟩
              have n4_ : Aside0 (Below w.heap.size w (((((w49.setCell ⟨gb622,0,none⟩ (.string t614)).setCell ⟨gb622,1,none⟩ (.int .i64 t615)).setCell ⟨gb622,2,none⟩ (.bool t616)).setCell ⟨gb622,3,none⟩ (.string t617)).setCell ⟨gb622,4,none⟩ (.slice Ao52 t618.length co52))):=⟨by repeat (first|(with_reducible first|exact HB.out|apply below_alloc|apply pw_below_drewN|apply below_drew1|refine below_set ?_ GE610.out|refine below_set ?_ GE622.out)|exact HB.out)⟩
              (try clear HO_611004)
              (try clear HO620)
              (try clear BK610)
              (try clear BK622)
              (try clear HB)
              generalize (((((w49.setCell ⟨gb622,0,none⟩ (.string t614)).setCell ⟨gb622,1,none⟩ (.int .i64 t615)).setCell ⟨gb622,2,none⟩ (.bool t616)).setCell ⟨gb622,3,none⟩ (.string t617)).setCell ⟨gb622,4,none⟩ (.slice Ao52 t618.length co52)) = w53 at n0_ n1_ n2_ n3_ n4_ ⊢
              have HO_611004:=n0_
              have HO620:=n1_
              have BK610:=n2_
              have BK622:=n3_
              have HB:=n4_
              clear n0_ n1_ n2_ n3_ n4_
              have n0_:=Aside0.mk (Kd.R_drew HO_611004.out)
              have n1_:=Aside0.mk (Kd.R_drew HO620.out)
              have n2_:=Aside0.mk (blk_drew BK610.out)
              have n3_:=Aside0.mk (blk_drew BK622.out)
              have n4_:=Aside0.mk (below_drew1 HB.out)
              clear HO_611004
              clear HO620
              clear BK610
              clear BK622
              clear HB
              have HO_611004:=n0_
              have HO620:=n1_
              have BK610:=n2_
              have BK622:=n3_
              have HB:=n4_
              clear n0_ n1_ n2_ n3_ n4_
              have p623 : 0 ≤ ((ji22) : Int):=of_decide_eq_true (by first|(with_reducible assumption)|assumption)
              have q623 : (ji22) < (l0.length : Int):=of_decide_eq_true (by first|(with_reducible assumption)|assumption)
              obtain ⟨ad623,A623_4,c623_4,e623,hx623_0,hx623_1,hx623_2,hx623_3,hx623_4,hl623_4,hi623_4⟩:=at_T25 HR0.out (ji22) p623 q623
              have hw623_4:=hx623_4
              have hw623_3:=hx623_3
              have hw623_2:=hx623_2
              have hw623_1:=hx623_1
              have hw623_0:=hx623_0
              obtain rfl : ad601 = ad623:=(by injection e623)
              replace hx623_0:=(HB.out.cell (World.block_lt_of_cell? w _ hx623_0)).trans hx623_0
              replace hx623_1:=(HB.out.cell (World.block_lt_of_cell? w _ hx623_1)).trans hx623_1
              replace hx623_2:=(HB.out.cell (World.block_lt_of_cell? w _ hx623_2)).trans hx623_2
              replace hx623_3:=(HB.out.cell (World.block_lt_of_cell? w _ hx623_3)).trans hx623_3
              replace hx623_4:=(HB.out.cell (World.block_lt_of_cell? w _ hx623_4)).trans hx623_4
              have HR623_4:=Aside0.mk hi623_4
              have HC623_4:=Aside0.mk hl623_4
              clear hi623_4 hl623_4
              replace p623:=eq_true p623
              replace q623:=eq_true q623
              have p624 : 0 ≤ (x3_1 : Int):=of_decide_eq_true (by first|(with_reducible assumption)|assumption)
              have q624 : x3_1 < (l0.length : Int):=of_decide_eq_true (by first|(with_reducible assumption)|assumption)
              obtain ⟨ad624,A624_4,c624_4,e624,hx624_0,hx624_1,hx624_2,hx624_3,hx624_4,hl624_4,hi624_4⟩:=at_T25 HR0.out x3_1 p624 q624
              have hw624_4:=hx624_4
              have hw624_3:=hx624_3
              have hw624_2:=hx624_2
              have hw624_1:=hx624_1
              have hw624_0:=hx624_0
              obtain rfl : ad601 = ad624:=(by injection e624)
              replace hx624_0:=(HB.out.cell (World.block_lt_of_cell? w _ hx624_0)).trans hx624_0
              replace hx624_1:=(HB.out.cell (World.block_lt_of_cell? w _ hx624_1)).trans hx624_1
              replace hx624_2:=(HB.out.cell (World.block_lt_of_cell? w _ hx624_2)).trans hx624_2
              replace hx624_3:=(HB.out.cell (World.block_lt_of_cell? w _ hx624_3)).trans hx624_3
              replace hx624_4:=(HB.out.cell (World.block_lt_of_cell? w _ hx624_4)).trans hx624_4
              have HR624_4:=Aside0.mk hi624_4
              have HC624_4:=Aside0.mk hl624_4
              clear hi624_4 hl624_4
              replace p624:=eq_true p624
              replace q624:=eq_true q624
              refine start_ (n:=23) (S:=fun w' => w'.cell? (ad601.add (((ji22)).toNat * 5)) = some (.string ((rd_T25 l0 (ji22)).f0)) ∧ w'.cell? ⟨(ad601.add (((ji22)).toNat * 5)).block,(ad601.add (((ji22)).toNat * 5)).off + 1,none⟩ = some (.int .i64 ((rd_T25 l0 (ji22)).f1)) ∧ w'.cell? ⟨(ad601.add (((ji22)).toNat * 5)).block,(ad601.add (((ji22)).toNat * 5)).off + 2,none⟩ = some (.bool ((rd_T25 l0 (ji22)).f2)) ∧ w'.cell? ⟨(ad601.add (((ji22)).toNat * 5)).block,(ad601.add (((ji22)).toNat * 5)).off + 3,none⟩ = some (.string ((rd_T25 l0 (ji22)).f3)) ∧ w'.cell? ⟨(ad601.add (((ji22)).toNat * 5)).block,(ad601.add (((ji22)).toNat * 5)).off + 4,none⟩ = some (.slice A623_4 ((rd_T25 l0 (ji22)).f4).length c623_4) ∧ w'.cell? (ad601.add ((x3_1).toNat * 5)) = some (.string ((rd_T25 l0 x3_1).f0)) ∧ w'.cell? ⟨(ad601.add ((x3_1).toNat * 5)).block,(ad601.add ((x3_1).toNat * 5)).off + 1,none⟩ = some (.int .i64 ((rd_T25 l0 x3_1).f1)) ∧ w'.cell? ⟨(ad601.add ((x3_1).toNat * 5)).block,(ad601.add ((x3_1).toNat * 5)).off + 2,none⟩ = some (.bool ((rd_T25 l0 x3_1).f2)) ∧ w'.cell? ⟨(ad601.add ((x3_1).toNat * 5)).block,(ad601.add ((x3_1).toNat * 5)).off + 3,none⟩ = some (.string ((rd_T25 l0 x3_1).f3)) ∧ w'.cell? ⟨(ad601.add ((x3_1).toNat * 5)).block,(ad601.add ((x3_1).toNat * 5)).off + 4,none⟩ = some (.slice A624_4 ((rd_T25 l0 x3_1).f4).length c624_4)) (ds:=[]) #[false,false,false,false,false,false,false,false,false,false,false,false,false,false,false,false,false,false,false,false,false,false,false] (by kernel_rfl) rfl rfl ⟨((HB.out.cell (World.block_lt_of_cell? w _ hw623_0)).trans hw623_0),((HB.out.cell (World.block_lt_of_cell? w _ hw623_1)).trans hw623_1),((HB.out.cell (World.block_lt_of_cell? w _ hw623_2)).trans hw623_2),((HB.out.cell (World.block_lt_of_cell? w _ hw623_3)).trans hw623_3),((HB.out.cell (World.block_lt_of_cell? w _ hw623_4)).trans hw623_4),((HB.out.cell (World.block_lt_of_cell? w _ hw624_0)).trans hw624_0),((HB.out.cell (World.block_lt_of_cell? w _ hw624_1)).trans hw624_1),((HB.out.cell (World.block_lt_of_cell? w _ hw624_2)).trans hw624_2),((HB.out.cell (World.block_lt_of_cell? w _ hw624_3)).trans hw624_3),((HB.out.cell (World.block_lt_of_cell? w _ hw624_4)).trans hw624_4)⟩ (fun hHeld => ?_);refine with_tabW cofferlaw14_told.tab8 cofferlaw14_told.bits8 (fun HT_ HW_ => ?_)
              generalize w53.drew = w54 at HO_611004 HO620 BK610 BK622 HB HR623_4 HR624_4 hx623_0 hx623_1 hx623_2 hx623_3 hx623_4 hx624_0 hx624_1 hx624_2 hx624_3 hx624_4 hHeld ⊢
              refine pure_ (i:=0) (N:=some 49) (v:=?_) (a':=?_) #[true,false,false,false,false,false,false,false,false,false,false,false,false,false,false,false,false,false,false,false,false,false,false] rfl rfl (any_of HT_.out (by kernel_rfl)) (fun _ _ _ h => h) (Or.inl ⟨by rfl,?_⟩) ?_ ?_
              rotate_left
              ·intro w'
               go_simp
               with_reducible rfl
              rotate_left
              ·simp only [Act.put,List.setIfInBounds_toArray,List.set_cons_zero,List.set_cons_succ,i64_w,i32_w]
               rfl
              refine pure_ (i:=1) (N:=some 50) (v:=?_) (a':=?_) #[true,true,false,false,false,false,false,false,false,false,false,false,false,false,false,false,false,false,false,false,false,false,false] rfl rfl (any_of HT_.out (by kernel_rfl)) (fun _ _ _ h => h) (Or.inl ⟨by rfl,?_⟩) ?_ ?_
              rotate_left
              ·intro w'
               go_simp
               with_reducible rfl
              rotate_left
              ·simp only [Act.put,List.setIfInBounds_toArray,List.set_cons_zero,List.set_cons_succ,i64_w,i32_w]
               rfl
              refine pure_ (i:=2) (N:=some 51) (v:=?_) (a':=?_) #[true,true,true,false,false,false,false,false,false,false,false,false,false,false,false,false,false,false,false,false,false,false,false] rfl rfl (any_of HT_.out (by kernel_rfl)) (fun _ _ _ h => h) (Or.inl ⟨by rfl,?_⟩) ?_ ?_
              rotate_left
              ·intro w'
               go_simp
               with_reducible rfl
              rotate_left
              ·simp only [Act.put,List.setIfInBounds_toArray,List.set_cons_zero,List.set_cons_succ,i64_w,i32_w]
               rfl
              refine pure_ (i:=3) (N:=some 52) (v:=?_) (a':=?_) #[true,true,true,true,false,false,false,false,false,false,false,false,false,false,false,false,false,false,false,false,false,false,false] rfl rfl (any_of HT_.out (by kernel_rfl)) (fun _ _ _ h => h) (Or.inl ⟨by rfl,?_⟩) ?_ ?_
              rotate_left
              ·intro w'
               go_simp
               with_reducible rfl
              rotate_left
              ·simp only [Act.put,List.setIfInBounds_toArray,List.set_cons_zero,List.set_cons_succ,i64_w,i32_w]
               rfl
              refine pure_ (i:=4) (N:=some 53) (v:=?_) (a':=?_) #[true,true,true,true,true,false,false,false,false,false,false,false,false,false,false,false,false,false,false,false,false,false,false] rfl rfl (any_of HT_.out (by kernel_rfl)) (fun _ _ _ h => h) (Or.inl ⟨by rfl,?_⟩) ?_ ?_
              rotate_left
              ·intro w'
               go_simp
               with_reducible rfl
              rotate_left
              ·simp only [Act.put,List.setIfInBounds_toArray,List.set_cons_zero,List.set_cons_succ,i64_w,i32_w]
               rfl
              refine pure_ (i:=5) (N:=some 54) (v:=?_) (a':=?_) #[true,true,true,true,true,true,false,false,false,false,false,false,false,false,false,false,false,false,false,false,false,false,false] rfl rfl (any_of HT_.out (by kernel_rfl)) (fun _ _ _ h => h) (Or.inl ⟨by rfl,?_⟩) ?_ ?_
              rotate_left
              ·intro w'
               go_simp
               with_reducible rfl
              rotate_left
              ·simp only [Act.put,List.setIfInBounds_toArray,List.set_cons_zero,List.set_cons_succ,i64_w,i32_w]
               rfl
              refine pure_ (i:=6) (N:=some 55) (v:=?_) (a':=?_) #[true,true,true,true,true,true,true,false,false,false,false,false,false,false,false,false,false,false,false,false,false,false,false] rfl rfl (any_of HT_.out (by kernel_rfl)) (fun _ _ _ h => h) (Or.inl ⟨by rfl,?_⟩) ?_ ?_
              rotate_left
              ·intro w'
               go_simp
               with_reducible rfl
              rotate_left
              ·simp only [Act.put,List.setIfInBounds_toArray,List.set_cons_zero,List.set_cons_succ,i64_w,i32_w]
               rfl
              refine pure_ (i:=7) (N:=some 56) (v:=?_) (a':=?_) #[true,true,true,true,true,true,true,true,false,false,false,false,false,false,false,false,false,false,false,false,false,false,false] rfl rfl (any_of HT_.out (by kernel_rfl)) (fun _ _ _ h => h) (Or.inl ⟨by rfl,?_⟩) ?_ ?_
              rotate_left
              ·intro w'
               go_simp
               with_reducible rfl
              rotate_left
              ·simp only [Act.put,List.setIfInBounds_toArray,List.set_cons_zero,List.set_cons_succ,i64_w,i32_w]
               rfl
              refine pure_ (i:=8) (N:=some 57) (v:=?_) (a':=?_) #[true,true,true,true,true,true,true,true,true,false,false,false,false,false,false,false,false,false,false,false,false,false,false] rfl rfl (any_of HT_.out (by kernel_rfl)) (fun _ _ _ h => h) (Or.inl ⟨by rfl,?_⟩) ?_ ?_
              rotate_left
              ·intro w'
               go_simp
               with_reducible rfl
              rotate_left
              ·simp only [Act.put,List.setIfInBounds_toArray,List.set_cons_zero,List.set_cons_succ,i64_w,i32_w]
               rfl
              refine pure_ (i:=9) (N:=some 58) (v:=?_) (a':=?_) #[true,true,true,true,true,true,true,true,true,true,false,false,false,false,false,false,false,false,false,false,false,false,false] rfl rfl (any_of HT_.out (by kernel_rfl)) (fun _ _ _ h => h) (Or.inl ⟨by rfl,?_⟩) ?_ ?_
              rotate_left
              ·intro w'
               go_simp
               with_reducible rfl
              rotate_left
              ·simp only [Act.put,List.setIfInBounds_toArray,List.set_cons_zero,List.set_cons_succ,i64_w,i32_w]
               rfl
              refine pure_ (i:=10) (N:=some 59) (v:=?_) (a':=?_) #[true,true,true,true,true,true,true,true,true,true,true,false,false,false,false,false,false,false,false,false,false,false,false] rfl rfl (any_of HT_.out (by kernel_rfl)) (fun _ _ _ h => h) (Or.inl ⟨by rfl,?_⟩) ?_ ?_
              rotate_left
              ·intro w'
               go_simp
               with_reducible rfl
              rotate_left
              ·simp only [Act.put,List.setIfInBounds_toArray,List.set_cons_zero,List.set_cons_succ,i64_w,i32_w]
               rfl
              refine pure_ (i:=11) (N:=some 60) (v:=?_) (a':=?_) #[true,true,true,true,true,true,true,true,true,true,true,true,false,false,false,false,false,false,false,false,false,false,false] rfl rfl (any_of HT_.out (by kernel_rfl)) (fun _ _ _ h => h) (Or.inl ⟨by rfl,?_⟩) ?_ ?_
              rotate_left
              ·intro w'
               go_simp
               with_reducible rfl
              rotate_left
              ·simp only [Act.put,List.setIfInBounds_toArray,List.set_cons_zero,List.set_cons_succ,i64_w,i32_w]
               rfl
              refine pure_ (i:=12) (N:=some 61) (v:=?_) (a':=?_) #[true,true,true,true,true,true,true,true,true,true,true,true,true,false,false,false,false,false,false,false,false,false,false] rfl rfl (any_of HT_.out (by kernel_rfl)) (fun _ _ _ h => h) (Or.inl ⟨by rfl,?_⟩) ?_ ?_
              rotate_left
              ·intro w'
               go_simp
               with_reducible rfl
              rotate_left
              ·simp only [Act.put,List.setIfInBounds_toArray,List.set_cons_zero,List.set_cons_succ,i64_w,i32_w]
               rfl
              refine pure_ (i:=14) (N:=some 63) (v:=?_) (a':=?_) #[true,true,true,true,true,true,true,true,true,true,true,true,true,false,true,false,false,false,false,false,false,false,false] rfl rfl (any_of HT_.out (by kernel_rfl)) (fun _ _ _ h => h) (Or.inl ⟨by rfl,?_⟩) ?_ ?_
              rotate_left
              ·intro w'
               go_simp
               with_reducible rfl
              rotate_left
              ·simp only [Act.put,List.setIfInBounds_toArray,List.set_cons_zero,List.set_cons_succ,i64_w,i32_w]
               rfl
              refine pure_ (i:=15) (N:=some 64) (v:=?_) (a':=?_) #[true,true,true,true,true,true,true,true,true,true,true,true,true,false,true,true,false,false,false,false,false,false,false] rfl rfl (any_of HT_.out (by kernel_rfl)) (fun _ _ _ h => h) (Or.inl ⟨by rfl,?_⟩) ?_ ?_
              rotate_left
              ·intro w'
               go_simp
               with_reducible rfl
              rotate_left
              ·simp only [Act.put,List.setIfInBounds_toArray,List.set_cons_zero,List.set_cons_succ,i64_w,i32_w]
               rfl
              refine pure_ (i:=16) (N:=some 65) (v:=?_) (a':=?_) #[true,true,true,true,true,true,true,true,true,true,true,true,true,false,true,true,true,false,false,false,false,false,false] rfl rfl (any_of HT_.out (by kernel_rfl)) (fun _ _ _ h => h) (Or.inl ⟨by rfl,?_⟩) ?_ ?_
              rotate_left
              ·intro w'
               go_simp
               with_reducible rfl
              rotate_left
              ·simp only [Act.put,List.setIfInBounds_toArray,List.set_cons_zero,List.set_cons_succ,i64_w,i32_w]
               rfl
              refine pure_ (i:=17) (N:=some 66) (v:=?_) (a':=?_) #[true,true,true,true,true,true,true,true,true,true,true,true,true,false,true,true,true,true,false,false,false,false,false] rfl rfl (any_of HT_.out (by kernel_rfl)) (fun _ _ _ h => h) (Or.inl ⟨by rfl,?_⟩) ?_ ?_
              rotate_left
              ·intro w'
               go_simp
               with_reducible rfl
              rotate_left
              ·simp only [Act.put,List.setIfInBounds_toArray,List.set_cons_zero,List.set_cons_succ,i64_w,i32_w]
               rfl
              refine take_ (i:=13) (N:=some 62) (v:=?_) (a':=?_) #[true,true,true,true,true,true,true,true,true,true,true,true,true,true,true,true,true,true,false,false,false,false,false] rfl rfl (take_ofW HT_.out HW_.out (by kernel_rfl)) (fun _ _ _ h => h) (Or.inl ⟨by rfl,?_⟩) hHeld ?_ ?_
              rotate_left
              ·rintro w' ⟨s0,s1,s2,s3,s4,s5,s6,s7,s8,s9⟩
               go_simp
               with_reducible rfl
              rotate_left
              ·simp only [Act.put,List.setIfInBounds_toArray,List.set_cons_zero,List.set_cons_succ,i64_w,i32_w]
               rfl
              refine take_ (i:=18) (N:=some 67) (v:=?_) (a':=?_) #[true,true,true,true,true,true,true,true,true,true,true,true,true,true,true,true,true,true,true,false,false,false,false] rfl rfl (take_ofW HT_.out HW_.out (by kernel_rfl)) (fun _ _ _ h => h) (Or.inl ⟨by rfl,?_⟩) hHeld ?_ ?_
              rotate_left
              ·rintro w' ⟨s0,s1,s2,s3,s4,s5,s6,s7,s8,s9⟩
               go_simp
               with_reducible rfl
              rotate_left
              ·simp only [Act.put,List.setIfInBounds_toArray,List.set_cons_zero,List.set_cons_succ,i64_w,i32_w]
               rfl
              refine pure_ (i:=19) (N:=some 68) (v:=?_) (a':=?_) #[true,true,true,true,true,true,true,true,true,true,true,true,true,true,true,true,true,true,true,true,false,false,false] rfl rfl (any_of HT_.out (by kernel_rfl)) (fun _ _ _ h => h) (Or.inl ⟨by rfl,?_⟩) ?_ ?_
              rotate_left
              ·intro w'
               go_simp
               with_reducible rfl
              rotate_left
              ·simp only [Act.put,List.setIfInBounds_toArray,List.set_cons_zero,List.set_cons_succ,i64_w,i32_w]
               rfl
              refine pure_ (i:=20) (N:=some 69) (v:=?_) (a':=?_) #[true,true,true,true,true,true,true,true,true,true,true,true,true,true,true,true,true,true,true,true,true,false,false] rfl rfl (any_of HT_.out (by kernel_rfl)) (fun _ _ _ h => h) (Or.inl ⟨by rfl,?_⟩) ?_ ?_
              rotate_left
              ·intro w'
               go_simp
               with_reducible rfl
              rotate_left
              ·simp only [Act.put,List.setIfInBounds_toArray,List.set_cons_zero,List.set_cons_succ,i64_w,i32_w]
               rfl
              refine pure_ (i:=21) (N:=some 70) (v:=?_) (a':=?_) #[true,true,true,true,true,true,true,true,true,true,true,true,true,true,true,true,true,true,true,true,true,true,false] rfl rfl (any_of HT_.out (by kernel_rfl)) (fun _ _ _ h => h) (Or.inl ⟨by rfl,?_⟩) ?_ ?_
              rotate_left
              ·intro w'
               go_simp
               with_reducible rfl
              rotate_left
              ·simp only [Act.put,List.setIfInBounds_toArray,List.set_cons_zero,List.set_cons_succ,i64_w,i32_w]
               rfl
              refine pure_ (i:=22) (N:=some 71) (v:=?_) (a':=?_) #[true,true,true,true,true,true,true,true,true,true,true,true,true,true,true,true,true,true,true,true,true,true,true] rfl rfl (any_of HT_.out (by kernel_rfl)) (fun _ _ _ h => h) (Or.inl ⟨by rfl,?_⟩) ?_ ?_
              rotate_left
              ·intro w'
               go_simp
               with_reducible rfl
              rotate_left
              ·simp only [Act.put,List.setIfInBounds_toArray,List.set_cons_zero,List.set_cons_succ,i64_w,i32_w]
               rfl
              refine done_ (done_of HT_.out (by kernel_rfl)) ?_
              try go_wp2
              go_roundg kj4
              case measure => have:=HK1.out;have:=HJ4.out;omega
              case rel => exact ⟨(ji22),(by first|rfl|(simp;done)|(simp only [← hji22] <;> (first|rfl|simp))|(simp [*];done)),H',⟨by have:=HK1.out;have:=HJ4.out;omega⟩,⟨by repeat (first|(with_reducible first|exact HB.out|apply below_alloc|apply pw_below_drewN|apply below_drew1|refine below_set ?_ GE610.out|refine below_set ?_ GE622.out)|exact HB.out)⟩⟩
           ·rw [if_neg c23] at H
            exact absurd H (by simp)
          ·rw [if_neg c21] at H
           have c21b0 : decide ((wrap64 (x3_1 + 1)) < (l0.length : Int)) = false:=decide_eq_false c21
           clear c21
           by_cases c55 : t621 = 0
           ·rw [if_pos c55] at H
            have c55b0 : (t621 == 0) = true:=beq_iff_eq.mpr c55
            have c55b1 : (t621 != 0) = false:=bne_eq_false_iff_eq.mpr c55
            clear c55
            obtain rfl:=Option.some.inj H
            have p613 : 0 ≤ (x3_1 : Int):=of_decide_eq_true (by first|(with_reducible assumption)|assumption)
            have q613 : x3_1 < (l0.length : Int):=of_decide_eq_true (by first|(with_reducible assumption)|assumption)
            obtain ⟨ad613,A613_4,c613_4,e613,hx613_0,hx613_1,hx613_2,hx613_3,hx613_4,hl613_4,hi613_4⟩:=at_T25 HR0.out x3_1 p613 q613
            obtain rfl : ad601 = ad613:=(by injection e613)
            replace hx613_0:=(HB.out.cell (World.block_lt_of_cell? w _ hx613_0)).trans hx613_0
            replace hx613_1:=(HB.out.cell (World.block_lt_of_cell? w _ hx613_1)).trans hx613_1
            replace hx613_2:=(HB.out.cell (World.block_lt_of_cell? w _ hx613_2)).trans hx613_2
            replace hx613_3:=(HB.out.cell (World.block_lt_of_cell? w _ hx613_3)).trans hx613_3
            replace hx613_4:=(HB.out.cell (World.block_lt_of_cell? w _ hx613_4)).trans hx613_4
            have HR613_4:=Aside0.mk hi613_4
            have HC613_4:=Aside0.mk hl613_4
            clear hi613_4 hl613_4
            replace p613:=eq_true p613
            replace q613:=eq_true q613
            try go_wp2_with (first|((with_reducible refine gate_callee (f:=31) rfl ?_);refine goesL_ (some 46) rfl rfl Try.func31 (by kernel_rfl) rfl #[.slice (some ad601) l0.length c0,.int .i64 (wrap64 (((rd_T25 l0 x3_1).f1) + 1))] rfl (by (try simp only [List.map_toArray,List.map_cons,List.map_nil]);first|done|rfl|(simp only [List.length_drop,List.length_take];rfl)) ?_;(with_reducible refine (stack_Get.calls _ _ l0 (wrap64 (((rd_T25 l0 x3_1).f1) + 1)) t614 t615 t616 t617 t618 t621 _ ?side1 ?side2 A20.out).mono ?_);(case side1 => repeat (first|exact (Kd.C_below HR0.out HB.out)|(with_reducible refine Kd.C_alloc ?_ _)|(with_reducible refine Kd.C_drewN ?_ _)|(with_reducible refine Kd.C_drew ?_)));(case side2 => exact HC0.out);rintro e w56 ⟨v619,rfl,ho0,hb⟩;refine ⟨_,rfl,?_⟩;have n0_:=Aside0.mk (Kd.R_elder' (by (with_reducible repeat (first|apply Kd.R_alloc|apply Kd.R_drewN|apply Kd.R_drew));exact HO_611004.out) (Kd.R_base ho0) hb);have n1_:=Aside0.mk (Kd.R_lower (Kd.R_new' ho0 (Kd.R_lt (by (with_reducible repeat (first|apply Kd.R_alloc|apply Kd.R_drewN|apply Kd.R_drew));exact HO_611004.out))) (below_size (by repeat (first|(with_reducible first|exact HB.out|apply below_alloc|apply pw_below_drewN|apply below_drew1|refine below_set ?_ GE610.out)|exact HB.out))));have n2_:=Aside0.mk (blk_below (g:=gb610) (o:=.cells #[.string t602,.int .i64 t603,.bool t604,.string t605,.slice Ao9 t606.length co9] 25 (0,0)) (by (with_reducible repeat (first|refine blk_drewN ?_ _|refine blk_drew ?_|refine blk_alloc ?_ _));exact BK610.out) hb);have n3_:=Aside0.mk (below_step (by repeat (first|(with_reducible first|exact HB.out|apply below_alloc|apply pw_below_drewN|apply below_drew1|refine below_set ?_ GE610.out)|exact HB.out)) hb);clear HO_611004;clear BK610;clear HB;have HO_611004:=n0_;have HO620:=n1_;have BK610:=n2_;have HB:=n3_;clear n0_ n1_ n2_ n3_;(try clear hb);(try clear hb2);(try clear hk);(try clear hi);(try clear ho0))|((with_reducible refine gate_dst (N:=6) rfl ?_);refine box_event ?hg (N:=6) ?hd (cs:=#[.string (⟨#[]⟩ : ByteArray),.int .i64 0,.bool false,.string (⟨#[]⟩ : ByteArray),.slice none 0 0]) (t:=25) ?hr ?_;(case hd => rfl);(case hg => rfl);(case hr => first|(go_simp;done)|(go_simp;rfl));intro gb622 hg w57 hbox hb;have n0_:=Aside0.mk (Kd.R_below (by (with_reducible repeat (first|apply Kd.R_alloc|apply Kd.R_drewN|apply Kd.R_drew));exact HO_611004.out) hb);have n1_:=Aside0.mk (Kd.R_below (by (with_reducible repeat (first|apply Kd.R_alloc|apply Kd.R_drewN|apply Kd.R_drew));exact HO620.out) hb);have n2_:=Aside0.mk (blk_below (g:=gb610) (o:=.cells #[.string t602,.int .i64 t603,.bool t604,.string t605,.slice Ao9 t606.length co9] 25 (0,0)) (by (with_reducible repeat (first|refine blk_drewN ?_ _|refine blk_drew ?_|refine blk_alloc ?_ _));exact BK610.out) hb);have n3_:=Aside0.mk (below_step (by repeat (first|(with_reducible first|exact HB.out|apply below_alloc|apply pw_below_drewN|apply below_drew1|refine below_set ?_ GE610.out)|exact HB.out)) hb);have n4_:=Aside0.mk (hbox);have n5_:=Aside0.mk ((by rw [hg];exact (below_size (by repeat (first|(with_reducible first|exact HB.out|apply below_alloc|apply pw_below_drewN|apply below_drew1|refine below_set ?_ GE610.out)|exact HB.out))) : w.heap.size ≤ gb622));have n6_:=Aside0.mk ((by rw [hg];exact (below_size (by repeat (first|(with_reducible first|exact HB.out|apply below_alloc|apply pw_below_drewN|apply below_drew1|refine below_set ?_ GE610.out)|exact HB.out))) : w.heap.size ≤ gb622));have n7_:=Aside0.mk ((by rw [hg];exact Nat.ne_of_lt (blk_lt (g:=gb610) (o:=.cells #[.string t602,.int .i64 t603,.bool t604,.string t605,.slice Ao9 t606.length co9] 25 (0,0)) (by (with_reducible repeat (first|refine blk_drewN ?_ _|refine blk_drew ?_|refine blk_alloc ?_ _));exact BK610.out)) : gb610 ≠ gb622));have n8_:=Aside0.mk ((by rw [hg];exact Nat.ne_of_gt (blk_lt (g:=gb610) (o:=.cells #[.string t602,.int .i64 t603,.bool t604,.string t605,.slice Ao9 t606.length co9] 25 (0,0)) (by (with_reducible repeat (first|refine blk_drewN ?_ _|refine blk_drew ?_|refine blk_alloc ?_ _));exact BK610.out)) : gb622 ≠ gb610));clear HO_611004;clear HO620;clear BK610;clear HB;have HO_611004:=n0_;have HO620:=n1_;have BK610:=n2_;have HB:=n3_;have BK622:=n4_;have GW622:=n5_;have GE622:=n6_;have NB610_622:=n7_;have NB622_610:=n8_;clear n0_ n1_ n2_ n3_ n4_ n5_ n6_ n7_ n8_;clear hb hbox hg;have hnb58:=NB622_610.out;have hnc58:=NB610_622.out;have hcz59_0 : w57.cell? ⟨gb622,0,none⟩ = some (.string (⟨#[]⟩ : ByteArray)):=(blk_cell BK622.out 0).trans rfl;have hcz59_1 : w57.cell? ⟨gb622,1,none⟩ = some (.int .i64 0):=(blk_cell BK622.out 1).trans rfl;have hcz59_2 : w57.cell? ⟨gb622,2,none⟩ = some (.bool false):=(blk_cell BK622.out 2).trans rfl;have hcz59_3 : w57.cell? ⟨gb622,3,none⟩ = some (.string (⟨#[]⟩ : ByteArray)):=(blk_cell BK622.out 3).trans rfl;have hcz59_4 : w57.cell? ⟨gb622,4,none⟩ = some (.slice none 0 0):=(blk_cell BK622.out 4).trans rfl;have hfz59_0:=blk_frozen BK622.out 0;have hfz59_1:=blk_frozen BK622.out 1;have hfz59_2:=blk_frozen BK622.out 2;have hfz59_3:=blk_frozen BK622.out 3;have hfz59_4:=blk_frozen BK622.out 4;obtain ⟨Ao60,co60,eo60⟩:=Kd.R_slice HO620.out;subst eo60))
            have n0_ : Aside0 (Kd.R k49 49 (((((w57.setCell ⟨gb622,0,none⟩ (.string t614)).setCell ⟨gb622,1,none⟩ (.int .i64 t615)).setCell ⟨gb622,2,none⟩ (.bool t616)).setCell ⟨gb622,3,none⟩ (.string t617)).setCell ⟨gb622,4,none⟩ (.slice Ao60 t618.length co60)) w.heap.size (fun k_ => some k_ ≠ (.slice Ao60 t618.length co60 : Value).ownBlock) (.slice Ao9 t606.length co9) t606):=⟨by (with_reducible repeat (first|apply Kd.R_alloc|apply Kd.R_drewN|apply Kd.R_drew));exact Kd.R_mono (Kd.R_far (p:=⟨gb622,4,none⟩) (Kd.R_far (p:=⟨gb622,3,none⟩) (Kd.R_far (p:=⟨gb622,2,none⟩) (Kd.R_far (p:=⟨gb622,1,none⟩) (Kd.R_far (p:=⟨gb622,0,none⟩) (Kd.R_types HO_611004.out BK622.out (by decide)) (fun _ hk => hk.2) (.string t614)) (fun _ hk => hk.2) (.int .i64 t615)) (fun _ hk => hk.2) (.bool t616)) (fun _ hk => hk.2) (.string t617)) (fun _ hk => hk.2) (.slice Ao60 t618.length co60)) (fun _ hk => hk.1.2)⟩
            have n1_ : Aside0 (Kd.R k49 49 (((((w57.setCell ⟨gb622,0,none⟩ (.string t614)).setCell ⟨gb622,1,none⟩ (.int .i64 t615)).setCell ⟨gb622,2,none⟩ (.bool t616)).setCell ⟨gb622,3,none⟩ (.string t617)).setCell ⟨gb622,4,none⟩ (.slice Ao60 t618.length co60)) w.heap.size (fun k_ => some k_ ≠ (.slice Ao9 t606.length co9 : Value).ownBlock) (.slice Ao60 t618.length co60) t618):=⟨by (with_reducible repeat (first|apply Kd.R_alloc|apply Kd.R_drewN|apply Kd.R_drew));exact Kd.R_mono (Kd.R_far (p:=⟨gb622,4,none⟩) (Kd.R_far (p:=⟨gb622,3,none⟩) (Kd.R_far (p:=⟨gb622,2,none⟩) (Kd.R_far (p:=⟨gb622,1,none⟩) (Kd.R_far (p:=⟨gb622,0,none⟩) (Kd.R_types HO620.out BK622.out (by decide)) (fun _ hk => hk.2) (.string t614)) (fun _ hk => hk.2) (.int .i64 t615)) (fun _ hk => hk.2) (.bool t616)) (fun _ hk => hk.2) (.string t617)) (fun _ hk => hk.2) (.slice Ao60 t618.length co60)) (fun _ hk => hk.1.2)⟩
            have n2_ : Aside0 ((((((w57.setCell ⟨gb622,0,none⟩ (.string t614)).setCell ⟨gb622,1,none⟩ (.int .i64 t615)).setCell ⟨gb622,2,none⟩ (.bool t616)).setCell ⟨gb622,3,none⟩ (.string t617)).setCell ⟨gb622,4,none⟩ (.slice Ao60 t618.length co60)).heap[gb610]? = some (.cells #[.string t602,.int .i64 t603,.bool t604,.string t605,.slice Ao9 t606.length co9] 25 (0,0))):=⟨by (with_reducible repeat (first|refine blk_drewN ?_ _|refine blk_drew ?_|refine blk_alloc ?_ _));refine blk_far ?_ NB610_622.out _;(with_reducible repeat (first|refine blk_drewN ?_ _|refine blk_drew ?_|refine blk_alloc ?_ _));refine blk_far ?_ NB610_622.out _;(with_reducible repeat (first|refine blk_drewN ?_ _|refine blk_drew ?_|refine blk_alloc ?_ _));refine blk_far ?_ NB610_622.out _;(with_reducible repeat (first|refine blk_drewN ?_ _|refine blk_drew ?_|refine blk_alloc ?_ _));refine blk_far ?_ NB610_622.out _;(with_reducible repeat (first|refine blk_drewN ?_ _|refine blk_drew ?_|refine blk_alloc ?_ _));refine blk_far ?_ NB610_622.out _;(with_reducible repeat (first|refine blk_drewN ?_ _|refine blk_drew ?_|refine blk_alloc ?_ _));exact BK610.out⟩
            have n3_ : Aside0 ((((((w57.setCell ⟨gb622,0,none⟩ (.string t614)).setCell ⟨gb622,1,none⟩ (.int .i64 t615)).setCell ⟨gb622,2,none⟩ (.bool t616)).setCell ⟨gb622,3,none⟩ (.string t617)).setCell ⟨gb622,4,none⟩ (.slice Ao60 t618.length co60)).heap[gb622]? = some (.cells #[.string t614,.int .i64 t615,.bool t616,.string t617,.slice Ao60 t618.length co60] 25 (0,0))):=⟨by (with_reducible repeat (first|refine blk_drewN ?_ _|refine blk_drew ?_|refine blk_alloc ?_ _));refine blk_put (cs:=#[.string t614,.int .i64 t615,.bool t616,.string t617,.slice none 0 0]) ?_ 4 _ rfl;(with_reducible repeat (first|refine blk_drewN ?_ _|refine blk_drew ?_|refine blk_alloc ?_ _));refine blk_put (cs:=#[.string t614,.int .i64 t615,.bool t616,.string (⟨#[]⟩ : ByteArray),.slice none 0 0]) ?_ 3 _ rfl;(with_reducible repeat (first|refine blk_drewN ?_ _|refine blk_drew ?_|refine blk_alloc ?_ _));refine blk_put (cs:=#[.string t614,.int .i64 t615,.bool false,.string (⟨#[]⟩ : ByteArray),.slice none 0 0]) ?_ 2 _ rfl;(with_reducible repeat (first|refine blk_drewN ?_ _|refine blk_drew ?_|refine blk_alloc ?_ _));refine blk_put (cs:=#[.string t614,.int .i64 0,.bool false,.string (⟨#[]⟩ : ByteArray),.slice none 0 0]) ?_ 1 _ rfl;(with_reducible repeat (first|refine blk_drewN ?_ _|refine blk_drew ?_|refine blk_alloc ?_ _));refine blk_put (cs:=#[.string (⟨#[]⟩ : ByteArray),.int .i64 0,.bool false,.string (⟨#[]⟩ : ByteArray),.slice none 0 0]) ?_ 0 _ rfl;(with_reducible repeat (first|refine blk_drewN ?_ _|refine blk_drew ?_|refine blk_alloc ?_ _));exact BK622.out⟩
            have n4_ : Aside0 (Below w.heap.size w (((((w57.setCell ⟨gb622,0,none⟩ (.string t614)).setCell ⟨gb622,1,none⟩ (.int .i64 t615)).setCell ⟨gb622,2,none⟩ (.bool t616)).setCell ⟨gb622,3,none⟩ (.string t617)).setCell ⟨gb622,4,none⟩ (.slice Ao60 t618.length co60))):=⟨by repeat (first|(with_reducible first|exact HB.out|apply below_alloc|apply pw_below_drewN|apply below_drew1|refine below_set ?_ GE610.out|refine below_set ?_ GE622.out)|exact HB.out)⟩
            (try clear HO_611004)
            (try clear HO620)
            (try clear BK610)
            (try clear BK622)
            (try clear HB)
            generalize (((((w57.setCell ⟨gb622,0,none⟩ (.string t614)).setCell ⟨gb622,1,none⟩ (.int .i64 t615)).setCell ⟨gb622,2,none⟩ (.bool t616)).setCell ⟨gb622,3,none⟩ (.string t617)).setCell ⟨gb622,4,none⟩ (.slice Ao60 t618.length co60)) = w61 at n0_ n1_ n2_ n3_ n4_ ⊢
            have HO_611004:=n0_
            have HO620:=n1_
            have BK610:=n2_
            have BK622:=n3_
            have HB:=n4_
            clear n0_ n1_ n2_ n3_ n4_
            have n0_:=Aside0.mk (Kd.R_drew HO_611004.out)
            have n1_:=Aside0.mk (Kd.R_drew HO620.out)
            have n2_:=Aside0.mk (blk_drew BK610.out)
            have n3_:=Aside0.mk (blk_drew BK622.out)
            have n4_:=Aside0.mk (below_drew1 HB.out)
            clear HO_611004
            clear HO620
            clear BK610
            clear BK622
            clear HB
            have HO_611004:=n0_
            have HO620:=n1_
            have BK610:=n2_
            have BK622:=n3_
            have HB:=n4_
            clear n0_ n1_ n2_ n3_ n4_
            refine start_ (n:=23) (S:=fun w' => True) (ds:=[]) #[false,false,false,false,false,false,false,false,false,false,false,false,false,false,false,false,false,false,false,false,false,false,false] (by kernel_rfl) rfl rfl trivial (fun hHeld => ?_);refine with_tabW cofferlaw14_told.tab8 cofferlaw14_told.bits8 (fun HT_ HW_ => ?_)
            generalize w61.drew = w62 at HO_611004 HO620 BK610 BK622 HB hHeld ⊢
            refine pure_ (i:=0) (N:=some 49) (v:=?_) (a':=?_) #[true,false,false,false,false,false,false,false,false,false,false,false,false,false,false,false,false,false,false,false,false,false,false] rfl rfl (any_of HT_.out (by kernel_rfl)) (fun _ _ _ h => h) (Or.inl ⟨by rfl,?_⟩) ?_ ?_
            rotate_left
            ·intro w'
             go_simp
             with_reducible rfl
            rotate_left
            ·simp only [Act.put,List.setIfInBounds_toArray,List.set_cons_zero,List.set_cons_succ,i64_w,i32_w]
             rfl
            refine pure_ (i:=1) (N:=some 50) (v:=?_) (a':=?_) #[true,true,false,false,false,false,false,false,false,false,false,false,false,false,false,false,false,false,false,false,false,false,false] rfl rfl (any_of HT_.out (by kernel_rfl)) (fun _ _ _ h => h) (Or.inl ⟨by rfl,?_⟩) ?_ ?_
            rotate_left
            ·intro w'
             go_simp
             with_reducible rfl
            rotate_left
            ·simp only [Act.put,List.setIfInBounds_toArray,List.set_cons_zero,List.set_cons_succ,i64_w,i32_w]
             rfl
            refine pure_ (i:=2) (N:=some 51) (v:=?_) (a':=?_) #[true,true,true,false,false,false,false,false,false,false,false,false,false,false,false,false,false,false,false,false,false,false,false] rfl rfl (any_of HT_.out (by kernel_rfl)) (fun _ _ _ h => h) (Or.inl ⟨by rfl,?_⟩) ?_ ?_
            rotate_left
            ·intro w'
             go_simp
             with_reducible rfl
            rotate_left
            ·simp only [Act.put,List.setIfInBounds_toArray,List.set_cons_zero,List.set_cons_succ,i64_w,i32_w]
             rfl
            refine pure_ (i:=3) (N:=some 52) (v:=?_) (a':=?_) #[true,true,true,true,false,false,false,false,false,false,false,false,false,false,false,false,false,false,false,false,false,false,false] rfl rfl (any_of HT_.out (by kernel_rfl)) (fun _ _ _ h => h) (Or.inl ⟨by rfl,?_⟩) ?_ ?_
            rotate_left
            ·intro w'
             go_simp
             with_reducible rfl
            rotate_left
            ·simp only [Act.put,List.setIfInBounds_toArray,List.set_cons_zero,List.set_cons_succ,i64_w,i32_w]
             rfl
            refine pure_ (i:=4) (N:=some 53) (v:=?_) (a':=?_) #[true,true,true,true,true,false,false,false,false,false,false,false,false,false,false,false,false,false,false,false,false,false,false] rfl rfl (any_of HT_.out (by kernel_rfl)) (fun _ _ _ h => h) (Or.inl ⟨by rfl,?_⟩) ?_ ?_
            rotate_left
            ·intro w'
             go_simp
             with_reducible rfl
            rotate_left
            ·simp only [Act.put,List.setIfInBounds_toArray,List.set_cons_zero,List.set_cons_succ,i64_w,i32_w]
             rfl
            refine pure_ (i:=5) (N:=some 54) (v:=?_) (a':=?_) #[true,true,true,true,true,true,false,false,false,false,false,false,false,false,false,false,false,false,false,false,false,false,false] rfl rfl (any_of HT_.out (by kernel_rfl)) (fun _ _ _ h => h) (Or.inl ⟨by rfl,?_⟩) ?_ ?_
            rotate_left
            ·intro w'
             go_simp
             with_reducible rfl
            rotate_left
            ·simp only [Act.put,List.setIfInBounds_toArray,List.set_cons_zero,List.set_cons_succ,i64_w,i32_w]
             rfl
            refine pure_ (i:=6) (N:=some 55) (v:=?_) (a':=?_) #[true,true,true,true,true,true,true,false,false,false,false,false,false,false,false,false,false,false,false,false,false,false,false] rfl rfl (any_of HT_.out (by kernel_rfl)) (fun _ _ _ h => h) (Or.inl ⟨by rfl,?_⟩) ?_ ?_
            rotate_left
            ·intro w'
             go_simp
             with_reducible rfl
            rotate_left
            ·simp only [Act.put,List.setIfInBounds_toArray,List.set_cons_zero,List.set_cons_succ,i64_w,i32_w]
             rfl
            refine pure_ (i:=7) (N:=some 56) (v:=?_) (a':=?_) #[true,true,true,true,true,true,true,true,false,false,false,false,false,false,false,false,false,false,false,false,false,false,false] rfl rfl (any_of HT_.out (by kernel_rfl)) (fun _ _ _ h => h) (Or.inl ⟨by rfl,?_⟩) ?_ ?_
            rotate_left
            ·intro w'
             go_simp
             with_reducible rfl
            rotate_left
            ·simp only [Act.put,List.setIfInBounds_toArray,List.set_cons_zero,List.set_cons_succ,i64_w,i32_w]
             rfl
            refine pure_ (i:=8) (N:=some 57) (v:=undef) (a':=?_) #[true,true,true,true,true,true,true,true,true,false,false,false,false,false,false,false,false,false,false,false,false,false,false] rfl rfl (any_of HT_.out (by kernel_rfl)) (fun _ _ _ h => h) (Or.inr ⟨by rfl,rfl⟩) ?_ ?_
            rotate_left
            ·simp only [Act.put,List.setIfInBounds_toArray,List.set_cons_zero,List.set_cons_succ,i64_w,i32_w]
             rfl
            refine pure_ (i:=9) (N:=some 58) (v:=undef) (a':=?_) #[true,true,true,true,true,true,true,true,true,true,false,false,false,false,false,false,false,false,false,false,false,false,false] rfl rfl (any_of HT_.out (by kernel_rfl)) (fun _ _ _ h => h) (Or.inr ⟨by rfl,rfl⟩) ?_ ?_
            rotate_left
            ·simp only [Act.put,List.setIfInBounds_toArray,List.set_cons_zero,List.set_cons_succ,i64_w,i32_w]
             rfl
            refine pure_ (i:=10) (N:=some 59) (v:=undef) (a':=?_) #[true,true,true,true,true,true,true,true,true,true,true,false,false,false,false,false,false,false,false,false,false,false,false] rfl rfl (any_of HT_.out (by kernel_rfl)) (fun _ _ _ h => h) (Or.inr ⟨by rfl,rfl⟩) ?_ ?_
            rotate_left
            ·simp only [Act.put,List.setIfInBounds_toArray,List.set_cons_zero,List.set_cons_succ,i64_w,i32_w]
             rfl
            refine pure_ (i:=11) (N:=some 60) (v:=undef) (a':=?_) #[true,true,true,true,true,true,true,true,true,true,true,true,false,false,false,false,false,false,false,false,false,false,false] rfl rfl (any_of HT_.out (by kernel_rfl)) (fun _ _ _ h => h) (Or.inr ⟨by rfl,rfl⟩) ?_ ?_
            rotate_left
            ·simp only [Act.put,List.setIfInBounds_toArray,List.set_cons_zero,List.set_cons_succ,i64_w,i32_w]
             rfl
            refine pure_ (i:=12) (N:=some 61) (v:=undef) (a':=?_) #[true,true,true,true,true,true,true,true,true,true,true,true,true,false,false,false,false,false,false,false,false,false,false] rfl rfl (any_of HT_.out (by kernel_rfl)) (fun _ _ _ h => h) (Or.inr ⟨by rfl,rfl⟩) ?_ ?_
            rotate_left
            ·simp only [Act.put,List.setIfInBounds_toArray,List.set_cons_zero,List.set_cons_succ,i64_w,i32_w]
             rfl
            refine pure_ (i:=13) (N:=some 62) (v:=undef) (a':=?_) #[true,true,true,true,true,true,true,true,true,true,true,true,true,true,false,false,false,false,false,false,false,false,false] rfl rfl (any_of HT_.out (by kernel_rfl)) (fun _ _ _ h => h) (Or.inr ⟨by rfl,rfl⟩) ?_ ?_
            rotate_left
            ·simp only [Act.put,List.setIfInBounds_toArray,List.set_cons_zero,List.set_cons_succ,i64_w,i32_w]
             rfl
            refine pure_ (i:=14) (N:=some 63) (v:=undef) (a':=?_) #[true,true,true,true,true,true,true,true,true,true,true,true,true,true,true,false,false,false,false,false,false,false,false] rfl rfl (any_of HT_.out (by kernel_rfl)) (fun _ _ _ h => h) (Or.inr ⟨by rfl,rfl⟩) ?_ ?_
            rotate_left
            ·simp only [Act.put,List.setIfInBounds_toArray,List.set_cons_zero,List.set_cons_succ,i64_w,i32_w]
             rfl
            refine pure_ (i:=15) (N:=some 64) (v:=undef) (a':=?_) #[true,true,true,true,true,true,true,true,true,true,true,true,true,true,true,true,false,false,false,false,false,false,false] rfl rfl (any_of HT_.out (by kernel_rfl)) (fun _ _ _ h => h) (Or.inr ⟨by rfl,rfl⟩) ?_ ?_
            rotate_left
            ·simp only [Act.put,List.setIfInBounds_toArray,List.set_cons_zero,List.set_cons_succ,i64_w,i32_w]
             rfl
            refine pure_ (i:=16) (N:=some 65) (v:=undef) (a':=?_) #[true,true,true,true,true,true,true,true,true,true,true,true,true,true,true,true,true,false,false,false,false,false,false] rfl rfl (any_of HT_.out (by kernel_rfl)) (fun _ _ _ h => h) (Or.inr ⟨by rfl,rfl⟩) ?_ ?_
            rotate_left
            ·simp only [Act.put,List.setIfInBounds_toArray,List.set_cons_zero,List.set_cons_succ,i64_w,i32_w]
             rfl
            refine pure_ (i:=17) (N:=some 66) (v:=undef) (a':=?_) #[true,true,true,true,true,true,true,true,true,true,true,true,true,true,true,true,true,true,false,false,false,false,false] rfl rfl (any_of HT_.out (by kernel_rfl)) (fun _ _ _ h => h) (Or.inr ⟨by rfl,rfl⟩) ?_ ?_
            rotate_left
            ·simp only [Act.put,List.setIfInBounds_toArray,List.set_cons_zero,List.set_cons_succ,i64_w,i32_w]
             rfl
            refine pure_ (i:=18) (N:=some 67) (v:=undef) (a':=?_) #[true,true,true,true,true,true,true,true,true,true,true,true,true,true,true,true,true,true,true,false,false,false,false] rfl rfl (any_of HT_.out (by kernel_rfl)) (fun _ _ _ h => h) (Or.inr ⟨by rfl,rfl⟩) ?_ ?_
            rotate_left
            ·simp only [Act.put,List.setIfInBounds_toArray,List.set_cons_zero,List.set_cons_succ,i64_w,i32_w]
             rfl
            refine pure_ (i:=19) (N:=some 68) (v:=undef) (a':=?_) #[true,true,true,true,true,true,true,true,true,true,true,true,true,true,true,true,true,true,true,true,false,false,false] rfl rfl (any_of HT_.out (by kernel_rfl)) (fun _ _ _ h => h) (Or.inr ⟨by rfl,rfl⟩) ?_ ?_
            rotate_left
            ·simp only [Act.put,List.setIfInBounds_toArray,List.set_cons_zero,List.set_cons_succ,i64_w,i32_w]
             rfl
            refine pure_ (i:=20) (N:=some 69) (v:=undef) (a':=?_) #[true,true,true,true,true,true,true,true,true,true,true,true,true,true,true,true,true,true,true,true,true,false,false] rfl rfl (any_of HT_.out (by kernel_rfl)) (fun _ _ _ h => h) (Or.inr ⟨by rfl,rfl⟩) ?_ ?_
            rotate_left
            ·simp only [Act.put,List.setIfInBounds_toArray,List.set_cons_zero,List.set_cons_succ,i64_w,i32_w]
             rfl
            refine pure_ (i:=21) (N:=some 70) (v:=?_) (a':=?_) #[true,true,true,true,true,true,true,true,true,true,true,true,true,true,true,true,true,true,true,true,true,true,false] rfl rfl (any_of HT_.out (by kernel_rfl)) (fun _ _ _ h => h) (Or.inl ⟨by rfl,?_⟩) ?_ ?_
            rotate_left
            ·intro w'
             go_simp
             with_reducible rfl
            rotate_left
            ·simp only [Act.put,List.setIfInBounds_toArray,List.set_cons_zero,List.set_cons_succ,i64_w,i32_w]
             rfl
            refine pure_ (i:=22) (N:=some 71) (v:=?_) (a':=?_) #[true,true,true,true,true,true,true,true,true,true,true,true,true,true,true,true,true,true,true,true,true,true,true] rfl rfl (any_of HT_.out (by kernel_rfl)) (fun _ _ _ h => h) (Or.inl ⟨by rfl,?_⟩) ?_ ?_
            rotate_left
            ·intro w'
             go_simp
             with_reducible rfl
            rotate_left
            ·simp only [Act.put,List.setIfInBounds_toArray,List.set_cons_zero,List.set_cons_succ,i64_w,i32_w]
             rfl
            refine done_ (done_of HT_.out (by kernel_rfl)) ?_
            try go_wp2
            go_ret
            exact ⟨by first|rfl|(simp [errW_none,errW_some] <;> rfl)|(simp [*,errW_none,errW_some] <;> rfl),by repeat (first|(with_reducible first|exact HB.out|apply below_alloc|apply pw_below_drewN|apply below_drew1|refine below_set ?_ GE610.out|refine below_set ?_ GE622.out)|exact HB.out)⟩
           ·rw [if_neg c55] at H
            have c55b0 : (t621 == 0) = false:=beq_eq_false_iff_ne.mpr c55
            have c55b1 : (t621 != 0) = true:=bne_iff_ne.mpr c55
            have H':=Aside0.mk H
            clear H
            have p613 : 0 ≤ (x3_1 : Int):=of_decide_eq_true (by first|(with_reducible assumption)|assumption)
            have q613 : x3_1 < (l0.length : Int):=of_decide_eq_true (by first|(with_reducible assumption)|assumption)
            obtain ⟨ad613,A613_4,c613_4,e613,hx613_0,hx613_1,hx613_2,hx613_3,hx613_4,hl613_4,hi613_4⟩:=at_T25 HR0.out x3_1 p613 q613
            obtain rfl : ad601 = ad613:=(by injection e613)
            replace hx613_0:=(HB.out.cell (World.block_lt_of_cell? w _ hx613_0)).trans hx613_0
            replace hx613_1:=(HB.out.cell (World.block_lt_of_cell? w _ hx613_1)).trans hx613_1
            replace hx613_2:=(HB.out.cell (World.block_lt_of_cell? w _ hx613_2)).trans hx613_2
            replace hx613_3:=(HB.out.cell (World.block_lt_of_cell? w _ hx613_3)).trans hx613_3
            replace hx613_4:=(HB.out.cell (World.block_lt_of_cell? w _ hx613_4)).trans hx613_4
            have HR613_4:=Aside0.mk hi613_4
            have HC613_4:=Aside0.mk hl613_4
            clear hi613_4 hl613_4
            replace p613:=eq_true p613
            replace q613:=eq_true q613
            try go_wp2_with (first|((with_reducible refine gate_callee (f:=31) rfl ?_);refine goesL_ (some 46) rfl rfl Try.func31 (by kernel_rfl) rfl #[.slice (some ad601) l0.length c0,.int .i64 (wrap64 (((rd_T25 l0 x3_1).f1) + 1))] rfl (by (try simp only [List.map_toArray,List.map_cons,List.map_nil]);first|done|rfl|(simp only [List.length_drop,List.length_take];rfl)) ?_;(with_reducible refine (stack_Get.calls _ _ l0 (wrap64 (((rd_T25 l0 x3_1).f1) + 1)) t614 t615 t616 t617 t618 t621 _ ?side1 ?side2 A20.out).mono ?_);(case side1 => repeat (first|exact (Kd.C_below HR0.out HB.out)|(with_reducible refine Kd.C_alloc ?_ _)|(with_reducible refine Kd.C_drewN ?_ _)|(with_reducible refine Kd.C_drew ?_)));(case side2 => exact HC0.out);rintro e w63 ⟨v619,rfl,ho0,hb⟩;refine ⟨_,rfl,?_⟩;have n0_:=Aside0.mk (Kd.R_elder' (by (with_reducible repeat (first|apply Kd.R_alloc|apply Kd.R_drewN|apply Kd.R_drew));exact HO_611004.out) (Kd.R_base ho0) hb);have n1_:=Aside0.mk (Kd.R_lower (Kd.R_new' ho0 (Kd.R_lt (by (with_reducible repeat (first|apply Kd.R_alloc|apply Kd.R_drewN|apply Kd.R_drew));exact HO_611004.out))) (below_size (by repeat (first|(with_reducible first|exact HB.out|apply below_alloc|apply pw_below_drewN|apply below_drew1|refine below_set ?_ GE610.out)|exact HB.out))));have n2_:=Aside0.mk (blk_below (g:=gb610) (o:=.cells #[.string t602,.int .i64 t603,.bool t604,.string t605,.slice Ao9 t606.length co9] 25 (0,0)) (by (with_reducible repeat (first|refine blk_drewN ?_ _|refine blk_drew ?_|refine blk_alloc ?_ _));exact BK610.out) hb);have n3_:=Aside0.mk (below_step (by repeat (first|(with_reducible first|exact HB.out|apply below_alloc|apply pw_below_drewN|apply below_drew1|refine below_set ?_ GE610.out)|exact HB.out)) hb);clear HO_611004;clear BK610;clear HB;have HO_611004:=n0_;have HO620:=n1_;have BK610:=n2_;have HB:=n3_;clear n0_ n1_ n2_ n3_;(try clear hb);(try clear hb2);(try clear hk);(try clear hi);(try clear ho0))|((with_reducible refine gate_dst (N:=6) rfl ?_);refine box_event ?hg (N:=6) ?hd (cs:=#[.string (⟨#[]⟩ : ByteArray),.int .i64 0,.bool false,.string (⟨#[]⟩ : ByteArray),.slice none 0 0]) (t:=25) ?hr ?_;(case hd => rfl);(case hg => rfl);(case hr => first|(go_simp;done)|(go_simp;rfl));intro gb622 hg w64 hbox hb;have n0_:=Aside0.mk (Kd.R_below (by (with_reducible repeat (first|apply Kd.R_alloc|apply Kd.R_drewN|apply Kd.R_drew));exact HO_611004.out) hb);have n1_:=Aside0.mk (Kd.R_below (by (with_reducible repeat (first|apply Kd.R_alloc|apply Kd.R_drewN|apply Kd.R_drew));exact HO620.out) hb);have n2_:=Aside0.mk (blk_below (g:=gb610) (o:=.cells #[.string t602,.int .i64 t603,.bool t604,.string t605,.slice Ao9 t606.length co9] 25 (0,0)) (by (with_reducible repeat (first|refine blk_drewN ?_ _|refine blk_drew ?_|refine blk_alloc ?_ _));exact BK610.out) hb);have n3_:=Aside0.mk (below_step (by repeat (first|(with_reducible first|exact HB.out|apply below_alloc|apply pw_below_drewN|apply below_drew1|refine below_set ?_ GE610.out)|exact HB.out)) hb);have n4_:=Aside0.mk (hbox);have n5_:=Aside0.mk ((by rw [hg];exact (below_size (by repeat (first|(with_reducible first|exact HB.out|apply below_alloc|apply pw_below_drewN|apply below_drew1|refine below_set ?_ GE610.out)|exact HB.out))) : w.heap.size ≤ gb622));have n6_:=Aside0.mk ((by rw [hg];exact (below_size (by repeat (first|(with_reducible first|exact HB.out|apply below_alloc|apply pw_below_drewN|apply below_drew1|refine below_set ?_ GE610.out)|exact HB.out))) : w.heap.size ≤ gb622));have n7_:=Aside0.mk ((by rw [hg];exact Nat.ne_of_lt (blk_lt (g:=gb610) (o:=.cells #[.string t602,.int .i64 t603,.bool t604,.string t605,.slice Ao9 t606.length co9] 25 (0,0)) (by (with_reducible repeat (first|refine blk_drewN ?_ _|refine blk_drew ?_|refine blk_alloc ?_ _));exact BK610.out)) : gb610 ≠ gb622));have n8_:=Aside0.mk ((by rw [hg];exact Nat.ne_of_gt (blk_lt (g:=gb610) (o:=.cells #[.string t602,.int .i64 t603,.bool t604,.string t605,.slice Ao9 t606.length co9] 25 (0,0)) (by (with_reducible repeat (first|refine blk_drewN ?_ _|refine blk_drew ?_|refine blk_alloc ?_ _));exact BK610.out)) : gb622 ≠ gb610));clear HO_611004;clear HO620;clear BK610;clear HB;have HO_611004:=n0_;have HO620:=n1_;have BK610:=n2_;have HB:=n3_;have BK622:=n4_;have GW622:=n5_;have GE622:=n6_;have NB610_622:=n7_;have NB622_610:=n8_;clear n0_ n1_ n2_ n3_ n4_ n5_ n6_ n7_ n8_;clear hb hbox hg;have hnb65:=NB622_610.out;have hnc65:=NB610_622.out;have hcz66_0 : w64.cell? ⟨gb622,0,none⟩ = some (.string (⟨#[]⟩ : ByteArray)):=(blk_cell BK622.out 0).trans rfl;have hcz66_1 : w64.cell? ⟨gb622,1,none⟩ = some (.int .i64 0):=(blk_cell BK622.out 1).trans rfl;have hcz66_2 : w64.cell? ⟨gb622,2,none⟩ = some (.bool false):=(blk_cell BK622.out 2).trans rfl;have hcz66_3 : w64.cell? ⟨gb622,3,none⟩ = some (.string (⟨#[]⟩ : ByteArray)):=(blk_cell BK622.out 3).trans rfl;have hcz66_4 : w64.cell? ⟨gb622,4,none⟩ = some (.slice none 0 0):=(blk_cell BK622.out 4).trans rfl;have hfz66_0:=blk_frozen BK622.out 0;have hfz66_1:=blk_frozen BK622.out 1;have hfz66_2:=blk_frozen BK622.out 2;have hfz66_3:=blk_frozen BK622.out 3;have hfz66_4:=blk_frozen BK622.out 4;obtain ⟨Ao67,co67,eo67⟩:=Kd.R_slice HO620.out;subst eo67))
            have n0_ : Aside0 (Kd.R k49 49 (((((w64.setCell ⟨gb622,0,none⟩ (.string t614)).setCell ⟨gb622,1,none⟩ (.int .i64 t615)).setCell ⟨gb622,2,none⟩ (.bool t616)).setCell ⟨gb622,3,none⟩ (.string t617)).setCell ⟨gb622,4,none⟩ (.slice Ao67 t618.length co67)) w.heap.size (fun k_ => some k_ ≠ (.slice Ao67 t618.length co67 : Value).ownBlock) (.slice Ao9 t606.length co9) t606):=⟨by (with_reducible repeat (first|apply Kd.R_alloc|apply Kd.R_drewN|apply Kd.R_drew));exact Kd.R_mono (Kd.R_far (p:=⟨gb622,4,none⟩) (Kd.R_far (p:=⟨gb622,3,none⟩) (Kd.R_far (p:=⟨gb622,2,none⟩) (Kd.R_far (p:=⟨gb622,1,none⟩) (Kd.R_far (p:=⟨gb622,0,none⟩) (Kd.R_types HO_611004.out BK622.out (by decide)) (fun _ hk => hk.2) (.string t614)) (fun _ hk => hk.2) (.int .i64 t615)) (fun _ hk => hk.2) (.bool t616)) (fun _ hk => hk.2) (.string t617)) (fun _ hk => hk.2) (.slice Ao67 t618.length co67)) (fun _ hk => hk.1.2)⟩
            have n1_ : Aside0 (Kd.R k49 49 (((((w64.setCell ⟨gb622,0,none⟩ (.string t614)).setCell ⟨gb622,1,none⟩ (.int .i64 t615)).setCell ⟨gb622,2,none⟩ (.bool t616)).setCell ⟨gb622,3,none⟩ (.string t617)).setCell ⟨gb622,4,none⟩ (.slice Ao67 t618.length co67)) w.heap.size (fun k_ => some k_ ≠ (.slice Ao9 t606.length co9 : Value).ownBlock) (.slice Ao67 t618.length co67) t618):=⟨by (with_reducible repeat (first|apply Kd.R_alloc|apply Kd.R_drewN|apply Kd.R_drew));exact Kd.R_mono (Kd.R_far (p:=⟨gb622,4,none⟩) (Kd.R_far (p:=⟨gb622,3,none⟩) (Kd.R_far (p:=⟨gb622,2,none⟩) (Kd.R_far (p:=⟨gb622,1,none⟩) (Kd.R_far (p:=⟨gb622,0,none⟩) (Kd.R_types HO620.out BK622.out (by decide)) (fun _ hk => hk.2) (.string t614)) (fun _ hk => hk.2) (.int .i64 t615)) (fun _ hk => hk.2) (.bool t616)) (fun _ hk => hk.2) (.string t617)) (fun _ hk => hk.2) (.slice Ao67 t618.length co67)) (fun _ hk => hk.1.2)⟩
            have n2_ : Aside0 ((((((w64.setCell ⟨gb622,0,none⟩ (.string t614)).setCell ⟨gb622,1,none⟩ (.int .i64 t615)).setCell ⟨gb622,2,none⟩ (.bool t616)).setCell ⟨gb622,3,none⟩ (.string t617)).setCell ⟨gb622,4,none⟩ (.slice Ao67 t618.length co67)).heap[gb610]? = some (.cells #[.string t602,.int .i64 t603,.bool t604,.string t605,.slice Ao9 t606.length co9] 25 (0,0))):=⟨by (with_reducible repeat (first|refine blk_drewN ?_ _|refine blk_drew ?_|refine blk_alloc ?_ _));refine blk_far ?_ NB610_622.out _;(with_reducible repeat (first|refine blk_drewN ?_ _|refine blk_drew ?_|refine blk_alloc ?_ _));refine blk_far ?_ NB610_622.out _;(with_reducible repeat (first|refine blk_drewN ?_ _|refine blk_drew ?_|refine blk_alloc ?_ _));refine blk_far ?_ NB610_622.out _;(with_reducible repeat (first|refine blk_drewN ?_ _|refine blk_drew ?_|refine blk_alloc ?_ _));refine blk_far ?_ NB610_622.out _;(with_reducible repeat (first|refine blk_drewN ?_ _|refine blk_drew ?_|refine blk_alloc ?_ _));refine blk_far ?_ NB610_622.out _;(with_reducible repeat (first|refine blk_drewN ?_ _|refine blk_drew ?_|refine blk_alloc ?_ _));exact BK610.out⟩
            have n3_ : Aside0 ((((((w64.setCell ⟨gb622,0,none⟩ (.string t614)).setCell ⟨gb622,1,none⟩ (.int .i64 t615)).setCell ⟨gb622,2,none⟩ (.bool t616)).setCell ⟨gb622,3,none⟩ (.string t617)).setCell ⟨gb622,4,none⟩ (.slice Ao67 t618.length co67)).heap[gb622]? = some (.cells #[.string t614,.int .i64 t615,.bool t616,.string t617,.slice Ao67 t618.length co67] 25 (0,0))):=⟨by (with_reducible repeat (first|refine blk_drewN ?_ _|refine blk_drew ?_|refine blk_alloc ?_ _));refine blk_put (cs:=#[.string t614,.int .i64 t615,.bool t616,.string t617,.slice none 0 0]) ?_ 4 _ rfl;(with_reducible repeat (first|refine blk_drewN ?_ _|refine blk_drew ?_|refine blk_alloc ?_ _));refine blk_put (cs:=#[.string t614,.int .i64 t615,.bool t616,.string (⟨#[]⟩ : ByteArray),.slice none 0 0]) ?_ 3 _ rfl;(with_reducible repeat (first|refine blk_drewN ?_ _|refine blk_drew ?_|refine blk_alloc ?_ _));refine blk_put (cs:=#[.string t614,.int .i64 t615,.bool false,.string (⟨#[]⟩ : ByteArray),.slice none 0 0]) ?_ 2 _ rfl;(with_reducible repeat (first|refine blk_drewN ?_ _|refine blk_drew ?_|refine blk_alloc ?_ _));refine blk_put (cs:=#[.string t614,.int .i64 0,.bool false,.string (⟨#[]⟩ : ByteArray),.slice none 0 0]) ?_ 1 _ rfl;(with_reducible repeat (first|refine blk_drewN ?_ _|refine blk_drew ?_|refine blk_alloc ?_ _));refine blk_put (cs:=#[.string (⟨#[]⟩ : ByteArray),.int .i64 0,.bool false,.string (⟨#[]⟩ : ByteArray),.slice none 0 0]) ?_ 0 _ rfl;(with_reducible repeat (first|refine blk_drewN ?_ _|refine blk_drew ?_|refine blk_alloc ?_ _));exact BK622.out⟩
            have n4_ : Aside0 (Below w.heap.size w (((((w64.setCell ⟨gb622,0,none⟩ (.string t614)).setCell ⟨gb622,1,none⟩ (.int .i64 t615)).setCell ⟨gb622,2,none⟩ (.bool t616)).setCell ⟨gb622,3,none⟩ (.string t617)).setCell ⟨gb622,4,none⟩ (.slice Ao67 t618.length co67))):=⟨by repeat (first|(with_reducible first|exact HB.out|apply below_alloc|apply pw_below_drewN|apply below_drew1|refine below_set ?_ GE610.out|refine below_set ?_ GE622.out)|exact HB.out)⟩
            (try clear HO_611004)
            (try clear HO620)
            (try clear BK610)
            (try clear BK622)
            (try clear HB)
            generalize (((((w64.setCell ⟨gb622,0,none⟩ (.string t614)).setCell ⟨gb622,1,none⟩ (.int .i64 t615)).setCell ⟨gb622,2,none⟩ (.bool t616)).setCell ⟨gb622,3,none⟩ (.string t617)).setCell ⟨gb622,4,none⟩ (.slice Ao67 t618.length co67)) = w68 at n0_ n1_ n2_ n3_ n4_ ⊢
            have HO_611004:=n0_
            have HO620:=n1_
            have BK610:=n2_
            have BK622:=n3_
            have HB:=n4_
            clear n0_ n1_ n2_ n3_ n4_
            have n0_:=Aside0.mk (Kd.R_drew HO_611004.out)
            have n1_:=Aside0.mk (Kd.R_drew HO620.out)
            have n2_:=Aside0.mk (blk_drew BK610.out)
            have n3_:=Aside0.mk (blk_drew BK622.out)
            have n4_:=Aside0.mk (below_drew1 HB.out)
            clear HO_611004
            clear HO620
            clear BK610
            clear BK622
            clear HB
            have HO_611004:=n0_
            have HO620:=n1_
            have BK610:=n2_
            have BK622:=n3_
            have HB:=n4_
            clear n0_ n1_ n2_ n3_ n4_
            refine start_ (n:=23) (S:=fun w' => True) (ds:=[]) #[false,false,false,false,false,false,false,false,false,false,false,false,false,false,false,false,false,false,false,false,false,false,false] (by kernel_rfl) rfl rfl trivial (fun hHeld => ?_);refine with_tabW cofferlaw14_told.tab8 cofferlaw14_told.bits8 (fun HT_ HW_ => ?_)
            generalize w68.drew = w69 at HO_611004 HO620 BK610 BK622 HB hHeld ⊢
            refine pure_ (i:=0) (N:=some 49) (v:=?_) (a':=?_) #[true,false,false,false,false,false,false,false,false,false,false,false,false,false,false,false,false,false,false,false,false,false,false] rfl rfl (any_of HT_.out (by kernel_rfl)) (fun _ _ _ h => h) (Or.inl ⟨by rfl,?_⟩) ?_ ?_
            rotate_left
            ·intro w'
             go_simp
             with_reducible rfl
            rotate_left
            ·simp only [Act.put,List.setIfInBounds_toArray,List.set_cons_zero,List.set_cons_succ,i64_w,i32_w]
             rfl
            refine pure_ (i:=1) (N:=some 50) (v:=?_) (a':=?_) #[true,true,false,false,false,false,false,false,false,false,false,false,false,false,false,false,false,false,false,false,false,false,false] rfl rfl (any_of HT_.out (by kernel_rfl)) (fun _ _ _ h => h) (Or.inl ⟨by rfl,?_⟩) ?_ ?_
            rotate_left
            ·intro w'
             go_simp
             with_reducible rfl
            rotate_left
            ·simp only [Act.put,List.setIfInBounds_toArray,List.set_cons_zero,List.set_cons_succ,i64_w,i32_w]
             rfl
            refine pure_ (i:=2) (N:=some 51) (v:=?_) (a':=?_) #[true,true,true,false,false,false,false,false,false,false,false,false,false,false,false,false,false,false,false,false,false,false,false] rfl rfl (any_of HT_.out (by kernel_rfl)) (fun _ _ _ h => h) (Or.inl ⟨by rfl,?_⟩) ?_ ?_
            rotate_left
            ·intro w'
             go_simp
             with_reducible rfl
            rotate_left
            ·simp only [Act.put,List.setIfInBounds_toArray,List.set_cons_zero,List.set_cons_succ,i64_w,i32_w]
             rfl
            refine pure_ (i:=3) (N:=some 52) (v:=?_) (a':=?_) #[true,true,true,true,false,false,false,false,false,false,false,false,false,false,false,false,false,false,false,false,false,false,false] rfl rfl (any_of HT_.out (by kernel_rfl)) (fun _ _ _ h => h) (Or.inl ⟨by rfl,?_⟩) ?_ ?_
            rotate_left
            ·intro w'
             go_simp
             with_reducible rfl
            rotate_left
            ·simp only [Act.put,List.setIfInBounds_toArray,List.set_cons_zero,List.set_cons_succ,i64_w,i32_w]
             rfl
            refine pure_ (i:=4) (N:=some 53) (v:=?_) (a':=?_) #[true,true,true,true,true,false,false,false,false,false,false,false,false,false,false,false,false,false,false,false,false,false,false] rfl rfl (any_of HT_.out (by kernel_rfl)) (fun _ _ _ h => h) (Or.inl ⟨by rfl,?_⟩) ?_ ?_
            rotate_left
            ·intro w'
             go_simp
             with_reducible rfl
            rotate_left
            ·simp only [Act.put,List.setIfInBounds_toArray,List.set_cons_zero,List.set_cons_succ,i64_w,i32_w]
             rfl
            refine pure_ (i:=5) (N:=some 54) (v:=?_) (a':=?_) #[true,true,true,true,true,true,false,false,false,false,false,false,false,false,false,false,false,false,false,false,false,false,false] rfl rfl (any_of HT_.out (by kernel_rfl)) (fun _ _ _ h => h) (Or.inl ⟨by rfl,?_⟩) ?_ ?_
            rotate_left
            ·intro w'
             go_simp
             with_reducible rfl
            rotate_left
            ·simp only [Act.put,List.setIfInBounds_toArray,List.set_cons_zero,List.set_cons_succ,i64_w,i32_w]
             rfl
            refine pure_ (i:=6) (N:=some 55) (v:=?_) (a':=?_) #[true,true,true,true,true,true,true,false,false,false,false,false,false,false,false,false,false,false,false,false,false,false,false] rfl rfl (any_of HT_.out (by kernel_rfl)) (fun _ _ _ h => h) (Or.inl ⟨by rfl,?_⟩) ?_ ?_
            rotate_left
            ·intro w'
             go_simp
             with_reducible rfl
            rotate_left
            ·simp only [Act.put,List.setIfInBounds_toArray,List.set_cons_zero,List.set_cons_succ,i64_w,i32_w]
             rfl
            refine pure_ (i:=7) (N:=some 56) (v:=?_) (a':=?_) #[true,true,true,true,true,true,true,true,false,false,false,false,false,false,false,false,false,false,false,false,false,false,false] rfl rfl (any_of HT_.out (by kernel_rfl)) (fun _ _ _ h => h) (Or.inl ⟨by rfl,?_⟩) ?_ ?_
            rotate_left
            ·intro w'
             go_simp
             with_reducible rfl
            rotate_left
            ·simp only [Act.put,List.setIfInBounds_toArray,List.set_cons_zero,List.set_cons_succ,i64_w,i32_w]
             rfl
            refine pure_ (i:=8) (N:=some 57) (v:=undef) (a':=?_) #[true,true,true,true,true,true,true,true,true,false,false,false,false,false,false,false,false,false,false,false,false,false,false] rfl rfl (any_of HT_.out (by kernel_rfl)) (fun _ _ _ h => h) (Or.inr ⟨by rfl,rfl⟩) ?_ ?_
            rotate_left
            ·simp only [Act.put,List.setIfInBounds_toArray,List.set_cons_zero,List.set_cons_succ,i64_w,i32_w]
             rfl
            refine pure_ (i:=9) (N:=some 58) (v:=undef) (a':=?_) #[true,true,true,true,true,true,true,true,true,true,false,false,false,false,false,false,false,false,false,false,false,false,false] rfl rfl (any_of HT_.out (by kernel_rfl)) (fun _ _ _ h => h) (Or.inr ⟨by rfl,rfl⟩) ?_ ?_
            rotate_left
            ·simp only [Act.put,List.setIfInBounds_toArray,List.set_cons_zero,List.set_cons_succ,i64_w,i32_w]
             rfl
            refine pure_ (i:=10) (N:=some 59) (v:=undef) (a':=?_) #[true,true,true,true,true,true,true,true,true,true,true,false,false,false,false,false,false,false,false,false,false,false,false] rfl rfl (any_of HT_.out (by kernel_rfl)) (fun _ _ _ h => h) (Or.inr ⟨by rfl,rfl⟩) ?_ ?_
            rotate_left
            ·simp only [Act.put,List.setIfInBounds_toArray,List.set_cons_zero,List.set_cons_succ,i64_w,i32_w]
             rfl
            refine pure_ (i:=11) (N:=some 60) (v:=undef) (a':=?_) #[true,true,true,true,true,true,true,true,true,true,true,true,false,false,false,false,false,false,false,false,false,false,false] rfl rfl (any_of HT_.out (by kernel_rfl)) (fun _ _ _ h => h) (Or.inr ⟨by rfl,rfl⟩) ?_ ?_
            rotate_left
            ·simp only [Act.put,List.setIfInBounds_toArray,List.set_cons_zero,List.set_cons_succ,i64_w,i32_w]
             rfl
            refine pure_ (i:=12) (N:=some 61) (v:=undef) (a':=?_) #[true,true,true,true,true,true,true,true,true,true,true,true,true,false,false,false,false,false,false,false,false,false,false] rfl rfl (any_of HT_.out (by kernel_rfl)) (fun _ _ _ h => h) (Or.inr ⟨by rfl,rfl⟩) ?_ ?_
            rotate_left
            ·simp only [Act.put,List.setIfInBounds_toArray,List.set_cons_zero,List.set_cons_succ,i64_w,i32_w]
             rfl
            refine pure_ (i:=13) (N:=some 62) (v:=undef) (a':=?_) #[true,true,true,true,true,true,true,true,true,true,true,true,true,true,false,false,false,false,false,false,false,false,false] rfl rfl (any_of HT_.out (by kernel_rfl)) (fun _ _ _ h => h) (Or.inr ⟨by rfl,rfl⟩) ?_ ?_
            rotate_left
            ·simp only [Act.put,List.setIfInBounds_toArray,List.set_cons_zero,List.set_cons_succ,i64_w,i32_w]
             rfl
            refine pure_ (i:=14) (N:=some 63) (v:=undef) (a':=?_) #[true,true,true,true,true,true,true,true,true,true,true,true,true,true,true,false,false,false,false,false,false,false,false] rfl rfl (any_of HT_.out (by kernel_rfl)) (fun _ _ _ h => h) (Or.inr ⟨by rfl,rfl⟩) ?_ ?_
            rotate_left
            ·simp only [Act.put,List.setIfInBounds_toArray,List.set_cons_zero,List.set_cons_succ,i64_w,i32_w]
             rfl
            refine pure_ (i:=15) (N:=some 64) (v:=undef) (a':=?_) #[true,true,true,true,true,true,true,true,true,true,true,true,true,true,true,true,false,false,false,false,false,false,false] rfl rfl (any_of HT_.out (by kernel_rfl)) (fun _ _ _ h => h) (Or.inr ⟨by rfl,rfl⟩) ?_ ?_
            rotate_left
            ·simp only [Act.put,List.setIfInBounds_toArray,List.set_cons_zero,List.set_cons_succ,i64_w,i32_w]
             rfl
            refine pure_ (i:=16) (N:=some 65) (v:=undef) (a':=?_) #[true,true,true,true,true,true,true,true,true,true,true,true,true,true,true,true,true,false,false,false,false,false,false] rfl rfl (any_of HT_.out (by kernel_rfl)) (fun _ _ _ h => h) (Or.inr ⟨by rfl,rfl⟩) ?_ ?_
            rotate_left
            ·simp only [Act.put,List.setIfInBounds_toArray,List.set_cons_zero,List.set_cons_succ,i64_w,i32_w]
             rfl
            refine pure_ (i:=17) (N:=some 66) (v:=undef) (a':=?_) #[true,true,true,true,true,true,true,true,true,true,true,true,true,true,true,true,true,true,false,false,false,false,false] rfl rfl (any_of HT_.out (by kernel_rfl)) (fun _ _ _ h => h) (Or.inr ⟨by rfl,rfl⟩) ?_ ?_
            rotate_left
            ·simp only [Act.put,List.setIfInBounds_toArray,List.set_cons_zero,List.set_cons_succ,i64_w,i32_w]
             rfl
            refine pure_ (i:=18) (N:=some 67) (v:=undef) (a':=?_) #[true,true,true,true,true,true,true,true,true,true,true,true,true,true,true,true,true,true,true,false,false,false,false] rfl rfl (any_of HT_.out (by kernel_rfl)) (fun _ _ _ h => h) (Or.inr ⟨by rfl,rfl⟩) ?_ ?_
            rotate_left
            ·simp only [Act.put,List.setIfInBounds_toArray,List.set_cons_zero,List.set_cons_succ,i64_w,i32_w]
             rfl
            refine pure_ (i:=19) (N:=some 68) (v:=undef) (a':=?_) #[true,true,true,true,true,true,true,true,true,true,true,true,true,true,true,true,true,true,true,true,false,false,false] rfl rfl (any_of HT_.out (by kernel_rfl)) (fun _ _ _ h => h) (Or.inr ⟨by rfl,rfl⟩) ?_ ?_
            rotate_left
            ·simp only [Act.put,List.setIfInBounds_toArray,List.set_cons_zero,List.set_cons_succ,i64_w,i32_w]
             rfl
            refine pure_ (i:=20) (N:=some 69) (v:=undef) (a':=?_) #[true,true,true,true,true,true,true,true,true,true,true,true,true,true,true,true,true,true,true,true,true,false,false] rfl rfl (any_of HT_.out (by kernel_rfl)) (fun _ _ _ h => h) (Or.inr ⟨by rfl,rfl⟩) ?_ ?_
            rotate_left
            ·simp only [Act.put,List.setIfInBounds_toArray,List.set_cons_zero,List.set_cons_succ,i64_w,i32_w]
             rfl
            refine pure_ (i:=21) (N:=some 70) (v:=?_) (a':=?_) #[true,true,true,true,true,true,true,true,true,true,true,true,true,true,true,true,true,true,true,true,true,true,false] rfl rfl (any_of HT_.out (by kernel_rfl)) (fun _ _ _ h => h) (Or.inl ⟨by rfl,?_⟩) ?_ ?_
            rotate_left
            ·intro w'
             go_simp
             with_reducible rfl
            rotate_left
            ·simp only [Act.put,List.setIfInBounds_toArray,List.set_cons_zero,List.set_cons_succ,i64_w,i32_w]
             rfl
            refine pure_ (i:=22) (N:=some 71) (v:=?_) (a':=?_) #[true,true,true,true,true,true,true,true,true,true,true,true,true,true,true,true,true,true,true,true,true,true,true] rfl rfl (any_of HT_.out (by kernel_rfl)) (fun _ _ _ h => h) (Or.inl ⟨by rfl,?_⟩) ?_ ?_
            rotate_left
            ·intro w'
             go_simp
             with_reducible rfl
            rotate_left
            ·simp only [Act.put,List.setIfInBounds_toArray,List.set_cons_zero,List.set_cons_succ,i64_w,i32_w]
             rfl
            refine done_ (done_of HT_.out (by kernel_rfl)) ?_
            try go_wp2
            go_roundg kj4
            case measure => have:=HK1.out;have:=HJ4.out;omega
            case rel => exact ⟨(wrap64 (x3_1 + 1)),(by first|rfl|(simp;done)|(simp [Go.Proofs.Ytmgiolijjheodaa.Z.bne_nil,Go.Proofs.Ytmgiolijjheodaa.Z.beq_nil];done)|(simp [*];done)),H',⟨by have:=HK1.out;have:=HJ4.out;omega⟩,⟨by repeat (first|(with_reducible first|exact HB.out|apply below_alloc|apply pw_below_drewN|apply below_drew1|refine below_set ?_ GE610.out|refine below_set ?_ GE622.out)|exact HB.out)⟩⟩
         ·rw [if_neg c19] at H
          exact absurd H (by simp)
        ·rw [if_neg c18] at H
         exact absurd H (by simp)
    ·rw [if_neg c3] at H
     exact absurd H (by simp)
   ·rw [if_neg c2] at H
    have c2b0 : decide (x3_1 < (l0.length : Int)) = false:=decide_eq_false c2
    clear c2
    replace H:=Option.bind_eq_some_iff.mp H
    obtain ⟨⟨t625,t626,t627,t628,t629,t632⟩,A700,H⟩:=H
    replace H : (if (l0.length : Int) = 0 then (some (t632 == 72)) else (if 0 ≤ (wrap64 ((l0.length : Int) - 1)) then (if (wrap64 ((l0.length : Int) - 1)) < (l0.length : Int) then (if (rd_T25 l0 (wrap64 ((l0.length : Int) - 1))).f2 = true then (if t632 = 73 then ((cofferlaw14_like.f k1 t625 t626 t627 t628 t629 (⟨#[]⟩ : ByteArray) 0 false (⟨#[]⟩ : ByteArray) ([] : List (S49))).bind fun t636 => (some t636)) else (some false)) else (if t632 = 0 then ((cofferlaw14_like.f k1 t625 t626 t627 t628 t629 ((rd_T25 l0 (wrap64 ((l0.length : Int) - 1))).f0) ((rd_T25 l0 (wrap64 ((l0.length : Int) - 1))).f1) ((rd_T25 l0 (wrap64 ((l0.length : Int) - 1))).f2) ((rd_T25 l0 (wrap64 ((l0.length : Int) - 1))).f3) ((rd_T25 l0 (wrap64 ((l0.length : Int) - 1))).f4)).bind fun t637 => (some t637)) else (some false))) else (none)) else (none))) = some r:=H
    have A70:=Aside0.mk A700
    clear A700
    by_cases c71 : (l0.length : Int) = 0
    ·rw [if_pos c71] at H
     have c71b0 : ((l0.length : Int) == 0) = true:=beq_iff_eq.mpr c71
     have c71b1 : ((l0.length : Int) != 0) = false:=bne_eq_false_iff_eq.mpr c71
     clear c71
     obtain rfl:=Option.some.inj H
     go_wp2_with (first|((with_reducible refine gate_callee (f:=13) rfl ?_);refine goesL_ (some 74) rfl rfl Try.func13 (by kernel_rfl) rfl #[.slice A0 l0.length c0] rfl (by (try simp only [List.map_toArray,List.map_cons,List.map_nil]);first|done|rfl|(simp only [List.length_drop,List.length_take];rfl)) ?_;(with_reducible refine (stack_Top.calls _ _ l0 t625 t626 t627 t628 t629 t632 _ ?side1 ?side2 A70.out).mono ?_);(case side1 => repeat (first|exact (Kd.C_below HR0.out HB.out)|(with_reducible refine Kd.C_alloc ?_ _)|(with_reducible refine Kd.C_drewN ?_ _)|(with_reducible refine Kd.C_drew ?_)));(case side2 => exact HC0.out);rintro e w72 ⟨v630,rfl,ho0,hb⟩;refine ⟨_,rfl,?_⟩;have n0_:=Aside0.mk (Kd.R_lower ho0 (below_size (by repeat (first|(with_reducible first|exact HB.out|apply below_alloc|apply pw_below_drewN|apply below_drew1)|exact HB.out))));have n1_:=Aside0.mk (below_step (by repeat (first|(with_reducible first|exact HB.out|apply below_alloc|apply pw_below_drewN|apply below_drew1)|exact HB.out)) hb);clear HB;have HO631:=n0_;have HB:=n1_;clear n0_ n1_;(try clear hb);(try clear hb2);(try clear hk);(try clear hi);(try clear ho0))|((with_reducible refine gate_dst (N:=8) rfl ?_);refine box_event ?hg (N:=8) ?hd (cs:=#[.string (⟨#[]⟩ : ByteArray),.int .i64 0,.bool false,.string (⟨#[]⟩ : ByteArray),.slice none 0 0]) (t:=25) ?hr ?_;(case hd => rfl);(case hg => rfl);(case hr => first|(go_simp;done)|(go_simp;rfl));intro gb633 hg w73 hbox hb;have n0_:=Aside0.mk (Kd.R_below (by (with_reducible repeat (first|apply Kd.R_alloc|apply Kd.R_drewN|apply Kd.R_drew));exact HO631.out) hb);have n1_:=Aside0.mk (below_step (by repeat (first|(with_reducible first|exact HB.out|apply below_alloc|apply pw_below_drewN|apply below_drew1)|exact HB.out)) hb);have n2_:=Aside0.mk (hbox);have n3_:=Aside0.mk ((by rw [hg];exact (below_size (by repeat (first|(with_reducible first|exact HB.out|apply below_alloc|apply pw_below_drewN|apply below_drew1)|exact HB.out))) : w.heap.size ≤ gb633));have n4_:=Aside0.mk ((by rw [hg];exact (below_size (by repeat (first|(with_reducible first|exact HB.out|apply below_alloc|apply pw_below_drewN|apply below_drew1)|exact HB.out))) : w.heap.size ≤ gb633));clear HO631;clear HB;have HO631:=n0_;have HB:=n1_;have BK633:=n2_;have GW633:=n3_;have GE633:=n4_;clear n0_ n1_ n2_ n3_ n4_;clear hb hbox hg;have hcz74_0 : w73.cell? ⟨gb633,0,none⟩ = some (.string (⟨#[]⟩ : ByteArray)):=(blk_cell BK633.out 0).trans rfl;have hcz74_1 : w73.cell? ⟨gb633,1,none⟩ = some (.int .i64 0):=(blk_cell BK633.out 1).trans rfl;have hcz74_2 : w73.cell? ⟨gb633,2,none⟩ = some (.bool false):=(blk_cell BK633.out 2).trans rfl;have hcz74_3 : w73.cell? ⟨gb633,3,none⟩ = some (.string (⟨#[]⟩ : ByteArray)):=(blk_cell BK633.out 3).trans rfl;have hcz74_4 : w73.cell? ⟨gb633,4,none⟩ = some (.slice none 0 0):=(blk_cell BK633.out 4).trans rfl;have hfz74_0:=blk_frozen BK633.out 0;have hfz74_1:=blk_frozen BK633.out 1;have hfz74_2:=blk_frozen BK633.out 2;have hfz74_3:=blk_frozen BK633.out 3;have hfz74_4:=blk_frozen BK633.out 4;obtain ⟨Ao75,co75,eo75⟩:=Kd.R_slice HO631.out;subst eo75))
     go_ret
     exact ⟨by first|rfl|(simp [errW_none,errW_some] <;> rfl)|(simp [*,errW_none,errW_some] <;> rfl),by repeat (first|(with_reducible first|exact HB.out|apply below_alloc|apply pw_below_drewN|apply below_drew1|refine below_set ?_ GE633.out)|exact HB.out)⟩
    ·rw [if_neg c71] at H
     have c71b0 : ((l0.length : Int) == 0) = false:=beq_eq_false_iff_ne.mpr c71
     have c71b1 : ((l0.length : Int) != 0) = true:=bne_iff_ne.mpr c71
     have c71b2 : ¬ (l0 = []):=fun h_ => c71 (by rw [h_];rfl)
     obtain ⟨ji76,hji76⟩ : ∃ j_ : Int,(wrap64 ((l0.length : Int) - 1)) = j_:=⟨_,rfl⟩
     replace H : (if 0 ≤ (ji76) then (if (ji76) < (l0.length : Int) then (if (rd_T25 l0 (ji76)).f2 = true then (if t632 = 73 then ((cofferlaw14_like.f k1 t625 t626 t627 t628 t629 (⟨#[]⟩ : ByteArray) 0 false (⟨#[]⟩ : ByteArray) ([] : List (S49))).bind fun t636 => (some t636)) else (some false)) else (if t632 = 0 then ((cofferlaw14_like.f k1 t625 t626 t627 t628 t629 ((rd_T25 l0 (ji76)).f0) ((rd_T25 l0 (ji76)).f1) ((rd_T25 l0 (ji76)).f2) ((rd_T25 l0 (ji76)).f3) ((rd_T25 l0 (ji76)).f4)).bind fun t637 => (some t637)) else (some false))) else (none)) else (none)) = some r:=by first|(rw [hji76] at H;exact H)|(simp only [hji76] at H ⊢;exact H)
     (try rw [hji76] at A70)
     have hji76w : (IntKind.i64.wrap ((l0.length : Int) - 1)) = ji76:=(i64_w _).trans hji76
     by_cases c77 : 0 ≤ (ji76)
     ·rw [if_pos c77] at H
      have c77b0 : decide (0 ≤ (ji76)) = true:=decide_eq_true c77
      clear c77
      by_cases c78 : (ji76) < (l0.length : Int)
      ·rw [if_pos c78] at H
       have c78b0 : decide ((ji76) < (l0.length : Int)) = true:=decide_eq_true c78
       clear c78
       obtain ⟨bq79,hbq79⟩ : ∃ b_ : Bool,b_ = ((rd_T25 l0 (ji76)).f2):=⟨_,rfl⟩
       replace H : (if bq79 = true then (if t632 = 73 then ((cofferlaw14_like.f k1 t625 t626 t627 t628 t629 (⟨#[]⟩ : ByteArray) 0 false (⟨#[]⟩ : ByteArray) ([] : List (S49))).bind fun t636 => (some t636)) else (some false)) else (if t632 = 0 then ((cofferlaw14_like.f k1 t625 t626 t627 t628 t629 ((rd_T25 l0 (ji76)).f0) ((rd_T25 l0 (ji76)).f1) (bq79) ((rd_T25 l0 (ji76)).f3) ((rd_T25 l0 (ji76)).f4)).bind fun t637 => (some t637)) else (some false))) = some r:=by rw [← hbq79] at H;exact H
       have Nbq79:=Aside0.mk hbq79
       clear hbq79
       by_cases c80 : bq79 = true
       ·subst c80
        have H1 : (if t632 = 73 then ((cofferlaw14_like.f k1 t625 t626 t627 t628 t629 (⟨#[]⟩ : ByteArray) 0 false (⟨#[]⟩ : ByteArray) ([] : List (S49))).bind fun t636 => (some t636)) else (some false)) = some r:=by rw [if_pos rfl] at H;exact H
        clear H
        have H:=H1
        clear H1
        by_cases c81 : t632 = 73
        ·rw [if_pos c81] at H
         have c81b0 : (t632 == 73) = true:=beq_iff_eq.mpr c81
         have c81b1 : (t632 != 73) = false:=bne_eq_false_iff_eq.mpr c81
         clear c81
         replace H:=Option.bind_eq_some_iff.mp H
         obtain ⟨t636,A820,H⟩:=H
         replace H : (some t636) = some r:=H
         have A82:=Aside0.mk A820
         clear A820
         obtain rfl:=Option.some.inj H
         go_wp2_with (first|((with_reducible refine gate_callee (f:=13) rfl ?_);refine goesL_ (some 74) rfl rfl Try.func13 (by kernel_rfl) rfl #[.slice A0 l0.length c0] rfl (by (try simp only [List.map_toArray,List.map_cons,List.map_nil]);first|done|rfl|(simp only [List.length_drop,List.length_take];rfl)) ?_;(with_reducible refine (stack_Top.calls _ _ l0 t625 t626 t627 t628 t629 t632 _ ?side1 ?side2 A70.out).mono ?_);(case side1 => repeat (first|exact (Kd.C_below HR0.out HB.out)|(with_reducible refine Kd.C_alloc ?_ _)|(with_reducible refine Kd.C_drewN ?_ _)|(with_reducible refine Kd.C_drew ?_)));(case side2 => exact HC0.out);rintro e w83 ⟨v630,rfl,ho0,hb⟩;refine ⟨_,rfl,?_⟩;have n0_:=Aside0.mk (Kd.R_lower ho0 (below_size (by repeat (first|(with_reducible first|exact HB.out|apply below_alloc|apply pw_below_drewN|apply below_drew1)|exact HB.out))));have n1_:=Aside0.mk (below_step (by repeat (first|(with_reducible first|exact HB.out|apply below_alloc|apply pw_below_drewN|apply below_drew1)|exact HB.out)) hb);clear HB;have HO631:=n0_;have HB:=n1_;clear n0_ n1_;(try clear hb);(try clear hb2);(try clear hk);(try clear hi);(try clear ho0))|((with_reducible refine gate_dst (N:=8) rfl ?_);refine box_event ?hg (N:=8) ?hd (cs:=#[.string (⟨#[]⟩ : ByteArray),.int .i64 0,.bool false,.string (⟨#[]⟩ : ByteArray),.slice none 0 0]) (t:=25) ?hr ?_;(case hd => rfl);(case hg => rfl);(case hr => first|(go_simp;done)|(go_simp;rfl));intro gb633 hg w84 hbox hb;have n0_:=Aside0.mk (Kd.R_below (by (with_reducible repeat (first|apply Kd.R_alloc|apply Kd.R_drewN|apply Kd.R_drew));exact HO631.out) hb);have n1_:=Aside0.mk (below_step (by repeat (first|(with_reducible first|exact HB.out|apply below_alloc|apply pw_below_drewN|apply below_drew1)|exact HB.out)) hb);have n2_:=Aside0.mk (hbox);have n3_:=Aside0.mk ((by rw [hg];exact (below_size (by repeat (first|(with_reducible first|exact HB.out|apply below_alloc|apply pw_below_drewN|apply below_drew1)|exact HB.out))) : w.heap.size ≤ gb633));have n4_:=Aside0.mk ((by rw [hg];exact (below_size (by repeat (first|(with_reducible first|exact HB.out|apply below_alloc|apply pw_below_drewN|apply below_drew1)|exact HB.out))) : w.heap.size ≤ gb633));clear HO631;clear HB;have HO631:=n0_;have HB:=n1_;have BK633:=n2_;have GW633:=n3_;have GE633:=n4_;clear n0_ n1_ n2_ n3_ n4_;clear hb hbox hg;have hcz85_0 : w84.cell? ⟨gb633,0,none⟩ = some (.string (⟨#[]⟩ : ByteArray)):=(blk_cell BK633.out 0).trans rfl;have hcz85_1 : w84.cell? ⟨gb633,1,none⟩ = some (.int .i64 0):=(blk_cell BK633.out 1).trans rfl;have hcz85_2 : w84.cell? ⟨gb633,2,none⟩ = some (.bool false):=(blk_cell BK633.out 2).trans rfl;have hcz85_3 : w84.cell? ⟨gb633,3,none⟩ = some (.string (⟨#[]⟩ : ByteArray)):=(blk_cell BK633.out 3).trans rfl;have hcz85_4 : w84.cell? ⟨gb633,4,none⟩ = some (.slice none 0 0):=(blk_cell BK633.out 4).trans rfl;have hfz85_0:=blk_frozen BK633.out 0;have hfz85_1:=blk_frozen BK633.out 1;have hfz85_2:=blk_frozen BK633.out 2;have hfz85_3:=blk_frozen BK633.out 3;have hfz85_4:=blk_frozen BK633.out 4;obtain ⟨Ao86,co86,eo86⟩:=Kd.R_slice HO631.out;subst eo86;have p634 : 0 ≤ ((ji76) : Int):=of_decide_eq_true (by first|(with_reducible assumption)|assumption);have q634 : (ji76) < (l0.length : Int):=of_decide_eq_true (by first|(with_reducible assumption)|assumption);obtain ⟨ad634,A634_4,c634_4,e634,hx634_0,hx634_1,hx634_2,hx634_3,hx634_4,hl634_4,hi634_4⟩:=at_T25 HR0.out (ji76) p634 q634;(try rw [← Nbq79.out] at hx634_2);cases e634;have hn634_0 : ad634.block ≠ gb633:=Nat.ne_of_lt (Nat.lt_of_lt_of_le (by have:=World.block_lt_of_cell? _ _ hx634_0;first|rwa [add_block] at this|exact this) GW633.out);have hn634_1 : ad634.block ≠ gb633:=Nat.ne_of_lt (Nat.lt_of_lt_of_le (by have:=World.block_lt_of_cell? _ _ hx634_0;first|rwa [add_block] at this|exact this) GW633.out);have hn634_2 : ad634.block ≠ gb633:=Nat.ne_of_lt (Nat.lt_of_lt_of_le (by have:=World.block_lt_of_cell? _ _ hx634_0;first|rwa [add_block] at this|exact this) GW633.out);have hn634_3 : ad634.block ≠ gb633:=Nat.ne_of_lt (Nat.lt_of_lt_of_le (by have:=World.block_lt_of_cell? _ _ hx634_0;first|rwa [add_block] at this|exact this) GW633.out);have hn634_4 : ad634.block ≠ gb633:=Nat.ne_of_lt (Nat.lt_of_lt_of_le (by have:=World.block_lt_of_cell? _ _ hx634_0;first|rwa [add_block] at this|exact this) GW633.out);replace hx634_0:=(HB.out.cell (World.block_lt_of_cell? w _ hx634_0)).trans hx634_0;replace hx634_1:=(HB.out.cell (World.block_lt_of_cell? w _ hx634_1)).trans hx634_1;replace hx634_2:=(HB.out.cell (World.block_lt_of_cell? w _ hx634_2)).trans hx634_2;replace hx634_3:=(HB.out.cell (World.block_lt_of_cell? w _ hx634_3)).trans hx634_3;replace hx634_4:=(HB.out.cell (World.block_lt_of_cell? w _ hx634_4)).trans hx634_4;have HR634_4:=Aside0.mk hi634_4;have HC634_4:=Aside0.mk hl634_4;clear hi634_4 hl634_4;replace hx634_0:=(cell_far (p:=⟨gb633,0,none⟩) (by first|(rw [add_block];exact hn634_0)|(show (Addr.add _ _).block ≠ _;rw [add_block];exact hn634_0)|exact hn634_0) (.string t625)).trans hx634_0;replace hx634_1:=(cell_far (p:=⟨gb633,0,none⟩) (by first|(rw [add_block];exact hn634_0)|(show (Addr.add _ _).block ≠ _;rw [add_block];exact hn634_0)|exact hn634_0) (.string t625)).trans hx634_1;replace hx634_2:=(cell_far (p:=⟨gb633,0,none⟩) (by first|(rw [add_block];exact hn634_0)|(show (Addr.add _ _).block ≠ _;rw [add_block];exact hn634_0)|exact hn634_0) (.string t625)).trans hx634_2;replace hx634_3:=(cell_far (p:=⟨gb633,0,none⟩) (by first|(rw [add_block];exact hn634_0)|(show (Addr.add _ _).block ≠ _;rw [add_block];exact hn634_0)|exact hn634_0) (.string t625)).trans hx634_3;replace hx634_4:=(cell_far (p:=⟨gb633,0,none⟩) (by first|(rw [add_block];exact hn634_0)|(show (Addr.add _ _).block ≠ _;rw [add_block];exact hn634_0)|exact hn634_0) (.string t625)).trans hx634_4;replace hx634_0:=(cell_far (p:=⟨gb633,1,none⟩) (by first|(rw [add_block];exact hn634_1)|(show (Addr.add _ _).block ≠ _;rw [add_block];exact hn634_1)|exact hn634_1) (.int .i64 t626)).trans hx634_0;replace hx634_1:=(cell_far (p:=⟨gb633,1,none⟩) (by first|(rw [add_block];exact hn634_1)|(show (Addr.add _ _).block ≠ _;rw [add_block];exact hn634_1)|exact hn634_1) (.int .i64 t626)).trans hx634_1;replace hx634_2:=(cell_far (p:=⟨gb633,1,none⟩) (by first|(rw [add_block];exact hn634_1)|(show (Addr.add _ _).block ≠ _;rw [add_block];exact hn634_1)|exact hn634_1) (.int .i64 t626)).trans hx634_2;replace hx634_3:=(cell_far (p:=⟨gb633,1,none⟩) (by first|(rw [add_block];exact hn634_1)|(show (Addr.add _ _).block ≠ _;rw [add_block];exact hn634_1)|exact hn634_1) (.int .i64 t626)).trans hx634_3;replace hx634_4:=(cell_far (p:=⟨gb633,1,none⟩) (by first|(rw [add_block];exact hn634_1)|(show (Addr.add _ _).block ≠ _;rw [add_block];exact hn634_1)|exact hn634_1) (.int .i64 t626)).trans hx634_4;replace hx634_0:=(cell_far (p:=⟨gb633,2,none⟩) (by first|(rw [add_block];exact hn634_2)|(show (Addr.add _ _).block ≠ _;rw [add_block];exact hn634_2)|exact hn634_2) (.bool t627)).trans hx634_0;replace hx634_1:=(cell_far (p:=⟨gb633,2,none⟩) (by first|(rw [add_block];exact hn634_2)|(show (Addr.add _ _).block ≠ _;rw [add_block];exact hn634_2)|exact hn634_2) (.bool t627)).trans hx634_1;replace hx634_2:=(cell_far (p:=⟨gb633,2,none⟩) (by first|(rw [add_block];exact hn634_2)|(show (Addr.add _ _).block ≠ _;rw [add_block];exact hn634_2)|exact hn634_2) (.bool t627)).trans hx634_2;replace hx634_3:=(cell_far (p:=⟨gb633,2,none⟩) (by first|(rw [add_block];exact hn634_2)|(show (Addr.add _ _).block ≠ _;rw [add_block];exact hn634_2)|exact hn634_2) (.bool t627)).trans hx634_3;replace hx634_4:=(cell_far (p:=⟨gb633,2,none⟩) (by first|(rw [add_block];exact hn634_2)|(show (Addr.add _ _).block ≠ _;rw [add_block];exact hn634_2)|exact hn634_2) (.bool t627)).trans hx634_4;replace hx634_0:=(cell_far (p:=⟨gb633,3,none⟩) (by first|(rw [add_block];exact hn634_3)|(show (Addr.add _ _).block ≠ _;rw [add_block];exact hn634_3)|exact hn634_3) (.string t628)).trans hx634_0;replace hx634_1:=(cell_far (p:=⟨gb633,3,none⟩) (by first|(rw [add_block];exact hn634_3)|(show (Addr.add _ _).block ≠ _;rw [add_block];exact hn634_3)|exact hn634_3) (.string t628)).trans hx634_1;replace hx634_2:=(cell_far (p:=⟨gb633,3,none⟩) (by first|(rw [add_block];exact hn634_3)|(show (Addr.add _ _).block ≠ _;rw [add_block];exact hn634_3)|exact hn634_3) (.string t628)).trans hx634_2;replace hx634_3:=(cell_far (p:=⟨gb633,3,none⟩) (by first|(rw [add_block];exact hn634_3)|(show (Addr.add _ _).block ≠ _;rw [add_block];exact hn634_3)|exact hn634_3) (.string t628)).trans hx634_3;replace hx634_4:=(cell_far (p:=⟨gb633,3,none⟩) (by first|(rw [add_block];exact hn634_3)|(show (Addr.add _ _).block ≠ _;rw [add_block];exact hn634_3)|exact hn634_3) (.string t628)).trans hx634_4;replace hx634_0:=(cell_far (p:=⟨gb633,4,none⟩) (by first|(rw [add_block];exact hn634_4)|(show (Addr.add _ _).block ≠ _;rw [add_block];exact hn634_4)|exact hn634_4) (.slice Ao86 t629.length co86)).trans hx634_0;replace hx634_1:=(cell_far (p:=⟨gb633,4,none⟩) (by first|(rw [add_block];exact hn634_4)|(show (Addr.add _ _).block ≠ _;rw [add_block];exact hn634_4)|exact hn634_4) (.slice Ao86 t629.length co86)).trans hx634_1;replace hx634_2:=(cell_far (p:=⟨gb633,4,none⟩) (by first|(rw [add_block];exact hn634_4)|(show (Addr.add _ _).block ≠ _;rw [add_block];exact hn634_4)|exact hn634_4) (.slice Ao86 t629.length co86)).trans hx634_2;replace hx634_3:=(cell_far (p:=⟨gb633,4,none⟩) (by first|(rw [add_block];exact hn634_4)|(show (Addr.add _ _).block ≠ _;rw [add_block];exact hn634_4)|exact hn634_4) (.slice Ao86 t629.length co86)).trans hx634_3;replace hx634_4:=(cell_far (p:=⟨gb633,4,none⟩) (by first|(rw [add_block];exact hn634_4)|(show (Addr.add _ _).block ≠ _;rw [add_block];exact hn634_4)|exact hn634_4) (.slice Ao86 t629.length co86)).trans hx634_4;clear hn634_0;clear hn634_1;clear hn634_2;clear hn634_3;clear hn634_4;replace p634:=eq_true p634;replace q634:=eq_true q634)|((with_reducible refine gate_dst (N:=10) rfl ?_);refine box_event ?hg (N:=10) ?hd (cs:=#[.string (⟨#[]⟩ : ByteArray),.int .i64 0,.bool false,.string (⟨#[]⟩ : ByteArray),.slice none 0 0]) (t:=25) ?hr ?_;(case hd => rfl);(case hg => rfl);(case hr => first|(go_simp;done)|(go_simp;rfl));intro gb635 hg w87 hbox hb;have n0_:=Aside0.mk (Kd.R_below (by (with_reducible repeat (first|apply Kd.R_alloc|apply Kd.R_drewN|apply Kd.R_drew));exact (Kd.R_mono (Kd.R_far (p:=⟨gb633,4,none⟩) (Kd.R_far (p:=⟨gb633,3,none⟩) (Kd.R_far (p:=⟨gb633,2,none⟩) (Kd.R_far (p:=⟨gb633,1,none⟩) (Kd.R_far (p:=⟨gb633,0,none⟩) (Kd.R_types HO631.out BK633.out (by decide)) (fun _ hk => hk.2) (.string t625)) (fun _ hk => hk.2) (.int .i64 t626)) (fun _ hk => hk.2) (.bool t627)) (fun _ hk => hk.2) (.string t628)) (fun _ hk => hk.2) (.slice Ao86 t629.length co86)) (fun _ h_ => h_.1))) hb);have n1_:=Aside0.mk (blk_below (g:=gb633) (o:=.cells #[.string t625,.int .i64 t626,.bool t627,.string t628,.slice Ao86 t629.length co86] 25 (0,0)) (by (with_reducible repeat (first|refine blk_drewN ?_ _|refine blk_drew ?_|refine blk_alloc ?_ _));refine blk_put (cs:=#[.string t625,.int .i64 t626,.bool t627,.string t628,.slice none 0 0]) ?_ 4 _ rfl;(with_reducible repeat (first|refine blk_drewN ?_ _|refine blk_drew ?_|refine blk_alloc ?_ _));refine blk_put (cs:=#[.string t625,.int .i64 t626,.bool t627,.string (⟨#[]⟩ : ByteArray),.slice none 0 0]) ?_ 3 _ rfl;(with_reducible repeat (first|refine blk_drewN ?_ _|refine blk_drew ?_|refine blk_alloc ?_ _));refine blk_put (cs:=#[.string t625,.int .i64 t626,.bool false,.string (⟨#[]⟩ : ByteArray),.slice none 0 0]) ?_ 2 _ rfl;(with_reducible repeat (first|refine blk_drewN ?_ _|refine blk_drew ?_|refine blk_alloc ?_ _));refine blk_put (cs:=#[.string t625,.int .i64 0,.bool false,.string (⟨#[]⟩ : ByteArray),.slice none 0 0]) ?_ 1 _ rfl;(with_reducible repeat (first|refine blk_drewN ?_ _|refine blk_drew ?_|refine blk_alloc ?_ _));refine blk_put (cs:=#[.string (⟨#[]⟩ : ByteArray),.int .i64 0,.bool false,.string (⟨#[]⟩ : ByteArray),.slice none 0 0]) ?_ 0 _ rfl;(with_reducible repeat (first|refine blk_drewN ?_ _|refine blk_drew ?_|refine blk_alloc ?_ _));exact BK633.out) hb);have n2_:=Aside0.mk (below_step (by repeat (first|(with_reducible first|exact HB.out|apply below_alloc|apply pw_below_drewN|apply below_drew1|refine below_set ?_ GE633.out)|exact HB.out)) hb);have n3_:=Aside0.mk (hbox);have n4_:=Aside0.mk ((by rw [hg];exact (below_size (by repeat (first|(with_reducible first|exact HB.out|apply below_alloc|apply pw_below_drewN|apply below_drew1|refine below_set ?_ GE633.out)|exact HB.out))) : w.heap.size ≤ gb635));have n5_:=Aside0.mk ((by rw [hg];exact (below_size (by repeat (first|(with_reducible first|exact HB.out|apply below_alloc|apply pw_below_drewN|apply below_drew1|refine below_set ?_ GE633.out)|exact HB.out))) : w.heap.size ≤ gb635));have n6_:=Aside0.mk ((by rw [hg];exact Nat.ne_of_lt (blk_lt (g:=gb633) (o:=.cells #[.string t625,.int .i64 t626,.bool t627,.string t628,.slice Ao86 t629.length co86] 25 (0,0)) (by (with_reducible repeat (first|refine blk_drewN ?_ _|refine blk_drew ?_|refine blk_alloc ?_ _));refine blk_put (cs:=#[.string t625,.int .i64 t626,.bool t627,.string t628,.slice none 0 0]) ?_ 4 _ rfl;(with_reducible repeat (first|refine blk_drewN ?_ _|refine blk_drew ?_|refine blk_alloc ?_ _));refine blk_put (cs:=#[.string t625,.int .i64 t626,.bool t627,.string (⟨#[]⟩ : ByteArray),.slice none 0 0]) ?_ 3 _ rfl;(with_reducible repeat (first|refine blk_drewN ?_ _|refine blk_drew ?_|refine blk_alloc ?_ _));refine blk_put (cs:=#[.string t625,.int .i64 t626,.bool false,.string (⟨#[]⟩ : ByteArray),.slice none 0 0]) ?_ 2 _ rfl;(with_reducible repeat (first|refine blk_drewN ?_ _|refine blk_drew ?_|refine blk_alloc ?_ _));refine blk_put (cs:=#[.string t625,.int .i64 0,.bool false,.string (⟨#[]⟩ : ByteArray),.slice none 0 0]) ?_ 1 _ rfl;(with_reducible repeat (first|refine blk_drewN ?_ _|refine blk_drew ?_|refine blk_alloc ?_ _));refine blk_put (cs:=#[.string (⟨#[]⟩ : ByteArray),.int .i64 0,.bool false,.string (⟨#[]⟩ : ByteArray),.slice none 0 0]) ?_ 0 _ rfl;(with_reducible repeat (first|refine blk_drewN ?_ _|refine blk_drew ?_|refine blk_alloc ?_ _));exact BK633.out)) : gb633 ≠ gb635));have n7_:=Aside0.mk ((by rw [hg];exact Nat.ne_of_gt (blk_lt (g:=gb633) (o:=.cells #[.string t625,.int .i64 t626,.bool t627,.string t628,.slice Ao86 t629.length co86] 25 (0,0)) (by (with_reducible repeat (first|refine blk_drewN ?_ _|refine blk_drew ?_|refine blk_alloc ?_ _));refine blk_put (cs:=#[.string t625,.int .i64 t626,.bool t627,.string t628,.slice none 0 0]) ?_ 4 _ rfl;(with_reducible repeat (first|refine blk_drewN ?_ _|refine blk_drew ?_|refine blk_alloc ?_ _));refine blk_put (cs:=#[.string t625,.int .i64 t626,.bool t627,.string (⟨#[]⟩ : ByteArray),.slice none 0 0]) ?_ 3 _ rfl;(with_reducible repeat (first|refine blk_drewN ?_ _|refine blk_drew ?_|refine blk_alloc ?_ _));refine blk_put (cs:=#[.string t625,.int .i64 t626,.bool false,.string (⟨#[]⟩ : ByteArray),.slice none 0 0]) ?_ 2 _ rfl;(with_reducible repeat (first|refine blk_drewN ?_ _|refine blk_drew ?_|refine blk_alloc ?_ _));refine blk_put (cs:=#[.string t625,.int .i64 0,.bool false,.string (⟨#[]⟩ : ByteArray),.slice none 0 0]) ?_ 1 _ rfl;(with_reducible repeat (first|refine blk_drewN ?_ _|refine blk_drew ?_|refine blk_alloc ?_ _));refine blk_put (cs:=#[.string (⟨#[]⟩ : ByteArray),.int .i64 0,.bool false,.string (⟨#[]⟩ : ByteArray),.slice none 0 0]) ?_ 0 _ rfl;(with_reducible repeat (first|refine blk_drewN ?_ _|refine blk_drew ?_|refine blk_alloc ?_ _));exact BK633.out)) : gb635 ≠ gb633));clear HO631;clear BK633;clear HB;have HO631:=n0_;have BK633:=n1_;have HB:=n2_;have BK635:=n3_;have GW635:=n4_;have GE635:=n5_;have NB633_635:=n6_;have NB635_633:=n7_;clear n0_ n1_ n2_ n3_ n4_ n5_ n6_ n7_;clear hb hbox hg;have hnb88:=NB635_633.out;have hnc88:=NB633_635.out;have hcz89_0 : w87.cell? ⟨gb635,0,none⟩ = some (.string (⟨#[]⟩ : ByteArray)):=(blk_cell BK635.out 0).trans rfl;have hcz89_1 : w87.cell? ⟨gb635,1,none⟩ = some (.int .i64 0):=(blk_cell BK635.out 1).trans rfl;have hcz89_2 : w87.cell? ⟨gb635,2,none⟩ = some (.bool false):=(blk_cell BK635.out 2).trans rfl;have hcz89_3 : w87.cell? ⟨gb635,3,none⟩ = some (.string (⟨#[]⟩ : ByteArray)):=(blk_cell BK635.out 3).trans rfl;have hcz89_4 : w87.cell? ⟨gb635,4,none⟩ = some (.slice none 0 0):=(blk_cell BK635.out 4).trans rfl;have hfz89_0:=blk_frozen BK635.out 0;have hfz89_1:=blk_frozen BK635.out 1;have hfz89_2:=blk_frozen BK635.out 2;have hfz89_3:=blk_frozen BK635.out 3;have hfz89_4:=blk_frozen BK635.out 4;have hcz90_0 : w87.cell? ⟨gb633,0,none⟩ = some (.string t625):=(blk_cell BK633.out 0).trans rfl;have hcz90_1 : w87.cell? ⟨gb633,1,none⟩ = some (.int .i64 t626):=(blk_cell BK633.out 1).trans rfl;have hcz90_2 : w87.cell? ⟨gb633,2,none⟩ = some (.bool t627):=(blk_cell BK633.out 2).trans rfl;have hcz90_3 : w87.cell? ⟨gb633,3,none⟩ = some (.string t628):=(blk_cell BK633.out 3).trans rfl;have hcz90_4 : w87.cell? ⟨gb633,4,none⟩ = some (.slice Ao86 t629.length co86):=(blk_cell BK633.out 4).trans rfl;have hfz90_0:=blk_frozen BK633.out 0;have hfz90_1:=blk_frozen BK633.out 1;have hfz90_2:=blk_frozen BK633.out 2;have hfz90_3:=blk_frozen BK633.out 3;have hfz90_4:=blk_frozen BK633.out 4)|(go_at_call 26;(refine (cofferlaw14_like.calls k1 t625 t626 t627 t628 _ _ t629 (⟨#[]⟩ : ByteArray) 0 false (⟨#[]⟩ : ByteArray) _ _ ([] : List (S49)) t636 _ ?side1 ?side2 ?side3 ?side4 A82.out).mono ?_);(case side1 => refine (Kd.R_reads' (e:=49) (base:=w.heap.size) (ok:=fun k_ => True) (n:=t629.length) (c:=co86) ?_).2.2;exact (by (with_reducible repeat (first|apply Kd.R_alloc|apply Kd.R_drewN|apply Kd.R_drew));exact (Kd.R_mono (Kd.R_far (p:=⟨gb635,4,none⟩) (Kd.R_far (p:=⟨gb635,3,none⟩) (Kd.R_far (p:=⟨gb635,2,none⟩) (Kd.R_far (p:=⟨gb635,1,none⟩) (Kd.R_far (p:=⟨gb635,0,none⟩) (Kd.R_types HO631.out BK635.out (by decide)) (fun _ hk => hk.2) (.string ((rd_T25 l0 (ji76)).f0))) (fun _ hk => hk.2) (.int .i64 ((rd_T25 l0 (ji76)).f1))) (fun _ hk => hk.2) (.bool true)) (fun _ hk => hk.2) (.string ((rd_T25 l0 (ji76)).f3))) (fun _ hk => hk.2) (.slice A634_4 ((rd_T25 l0 (ji76)).f4).length c634_4)) (fun _ h_ => h_.1))));(case side2 => exact (Kd.R_reads' HO631.out).2.1);(case side3 => exact Kd.C_nil _ _);(case side4 => exact Nat.le_refl _);rintro e w91 ⟨rfl,hb⟩;have n0_:=Aside0.mk (Kd.R_below (by (with_reducible repeat (first|apply Kd.R_alloc|apply Kd.R_drewN|apply Kd.R_drew));exact (Kd.R_mono (Kd.R_far (p:=⟨gb635,4,none⟩) (Kd.R_far (p:=⟨gb635,3,none⟩) (Kd.R_far (p:=⟨gb635,2,none⟩) (Kd.R_far (p:=⟨gb635,1,none⟩) (Kd.R_far (p:=⟨gb635,0,none⟩) (Kd.R_types HO631.out BK635.out (by decide)) (fun _ hk => hk.2) (.string ((rd_T25 l0 (ji76)).f0))) (fun _ hk => hk.2) (.int .i64 ((rd_T25 l0 (ji76)).f1))) (fun _ hk => hk.2) (.bool true)) (fun _ hk => hk.2) (.string ((rd_T25 l0 (ji76)).f3))) (fun _ hk => hk.2) (.slice A634_4 ((rd_T25 l0 (ji76)).f4).length c634_4)) (fun _ h_ => h_.1))) hb);have n1_:=Aside0.mk (blk_below (g:=gb633) (o:=.cells #[.string t625,.int .i64 t626,.bool t627,.string t628,.slice Ao86 t629.length co86] 25 (0,0)) (by (with_reducible repeat (first|refine blk_drewN ?_ _|refine blk_drew ?_|refine blk_alloc ?_ _));refine blk_far ?_ NB633_635.out _;(with_reducible repeat (first|refine blk_drewN ?_ _|refine blk_drew ?_|refine blk_alloc ?_ _));refine blk_far ?_ NB633_635.out _;(with_reducible repeat (first|refine blk_drewN ?_ _|refine blk_drew ?_|refine blk_alloc ?_ _));refine blk_far ?_ NB633_635.out _;(with_reducible repeat (first|refine blk_drewN ?_ _|refine blk_drew ?_|refine blk_alloc ?_ _));refine blk_far ?_ NB633_635.out _;(with_reducible repeat (first|refine blk_drewN ?_ _|refine blk_drew ?_|refine blk_alloc ?_ _));refine blk_far ?_ NB633_635.out _;(with_reducible repeat (first|refine blk_drewN ?_ _|refine blk_drew ?_|refine blk_alloc ?_ _));exact BK633.out) hb);have n2_:=Aside0.mk (blk_below (g:=gb635) (o:=.cells #[.string ((rd_T25 l0 (ji76)).f0),.int .i64 ((rd_T25 l0 (ji76)).f1),.bool true,.string ((rd_T25 l0 (ji76)).f3),.slice A634_4 ((rd_T25 l0 (ji76)).f4).length c634_4] 25 (0,0)) (by (with_reducible repeat (first|refine blk_drewN ?_ _|refine blk_drew ?_|refine blk_alloc ?_ _));refine blk_put (cs:=#[.string ((rd_T25 l0 (ji76)).f0),.int .i64 ((rd_T25 l0 (ji76)).f1),.bool true,.string ((rd_T25 l0 (ji76)).f3),.slice none 0 0]) ?_ 4 _ rfl;(with_reducible repeat (first|refine blk_drewN ?_ _|refine blk_drew ?_|refine blk_alloc ?_ _));refine blk_put (cs:=#[.string ((rd_T25 l0 (ji76)).f0),.int .i64 ((rd_T25 l0 (ji76)).f1),.bool true,.string (⟨#[]⟩ : ByteArray),.slice none 0 0]) ?_ 3 _ rfl;(with_reducible repeat (first|refine blk_drewN ?_ _|refine blk_drew ?_|refine blk_alloc ?_ _));refine blk_put (cs:=#[.string ((rd_T25 l0 (ji76)).f0),.int .i64 ((rd_T25 l0 (ji76)).f1),.bool false,.string (⟨#[]⟩ : ByteArray),.slice none 0 0]) ?_ 2 _ rfl;(with_reducible repeat (first|refine blk_drewN ?_ _|refine blk_drew ?_|refine blk_alloc ?_ _));refine blk_put (cs:=#[.string ((rd_T25 l0 (ji76)).f0),.int .i64 0,.bool false,.string (⟨#[]⟩ : ByteArray),.slice none 0 0]) ?_ 1 _ rfl;(with_reducible repeat (first|refine blk_drewN ?_ _|refine blk_drew ?_|refine blk_alloc ?_ _));refine blk_put (cs:=#[.string (⟨#[]⟩ : ByteArray),.int .i64 0,.bool false,.string (⟨#[]⟩ : ByteArray),.slice none 0 0]) ?_ 0 _ rfl;(with_reducible repeat (first|refine blk_drewN ?_ _|refine blk_drew ?_|refine blk_alloc ?_ _));exact BK635.out) hb);have n3_:=Aside0.mk (below_step (by repeat (first|(with_reducible first|exact HB.out|apply below_alloc|apply pw_below_drewN|apply below_drew1|refine below_set ?_ GE633.out|refine below_set ?_ GE635.out)|exact HB.out)) hb);clear HO631;clear BK633;clear BK635;clear HB;have HO631:=n0_;have BK633:=n1_;have BK635:=n2_;have HB:=n3_;clear n0_ n1_ n2_ n3_;(try clear hb);(try clear hb2);(try clear hk);(try clear hi)))
         go_ret
         exact ⟨by first|rfl|(simp [errW_none,errW_some] <;> rfl)|(simp only [← hji76];first|rfl|(simp [errW_none,errW_some] <;> rfl))|(simp [*,errW_none,errW_some] <;> rfl),by repeat (first|(with_reducible first|exact HB.out|apply below_alloc|apply pw_below_drewN|apply below_drew1|refine below_set ?_ GE633.out|refine below_set ?_ GE635.out)|exact HB.out)⟩
        ·rw [if_neg c81] at H
         have c81b0 : (t632 == 73) = false:=beq_eq_false_iff_ne.mpr c81
         have c81b1 : (t632 != 73) = true:=bne_iff_ne.mpr c81
         obtain rfl:=Option.some.inj H
         go_wp2_with (first|((with_reducible refine gate_callee (f:=13) rfl ?_);refine goesL_ (some 74) rfl rfl Try.func13 (by kernel_rfl) rfl #[.slice A0 l0.length c0] rfl (by (try simp only [List.map_toArray,List.map_cons,List.map_nil]);first|done|rfl|(simp only [List.length_drop,List.length_take];rfl)) ?_;(with_reducible refine (stack_Top.calls _ _ l0 t625 t626 t627 t628 t629 t632 _ ?side1 ?side2 A70.out).mono ?_);(case side1 => repeat (first|exact (Kd.C_below HR0.out HB.out)|(with_reducible refine Kd.C_alloc ?_ _)|(with_reducible refine Kd.C_drewN ?_ _)|(with_reducible refine Kd.C_drew ?_)));(case side2 => exact HC0.out);rintro e w92 ⟨v630,rfl,ho0,hb⟩;refine ⟨_,rfl,?_⟩;have n0_:=Aside0.mk (Kd.R_lower ho0 (below_size (by repeat (first|(with_reducible first|exact HB.out|apply below_alloc|apply pw_below_drewN|apply below_drew1)|exact HB.out))));have n1_:=Aside0.mk (below_step (by repeat (first|(with_reducible first|exact HB.out|apply below_alloc|apply pw_below_drewN|apply below_drew1)|exact HB.out)) hb);clear HB;have HO631:=n0_;have HB:=n1_;clear n0_ n1_;(try clear hb);(try clear hb2);(try clear hk);(try clear hi);(try clear ho0))|((with_reducible refine gate_dst (N:=8) rfl ?_);refine box_event ?hg (N:=8) ?hd (cs:=#[.string (⟨#[]⟩ : ByteArray),.int .i64 0,.bool false,.string (⟨#[]⟩ : ByteArray),.slice none 0 0]) (t:=25) ?hr ?_;(case hd => rfl);(case hg => rfl);(case hr => first|(go_simp;done)|(go_simp;rfl));intro gb633 hg w93 hbox hb;have n0_:=Aside0.mk (Kd.R_below (by (with_reducible repeat (first|apply Kd.R_alloc|apply Kd.R_drewN|apply Kd.R_drew));exact HO631.out) hb);have n1_:=Aside0.mk (below_step (by repeat (first|(with_reducible first|exact HB.out|apply below_alloc|apply pw_below_drewN|apply below_drew1)|exact HB.out)) hb);have n2_:=Aside0.mk (hbox);have n3_:=Aside0.mk ((by rw [hg];exact (below_size (by repeat (first|(with_reducible first|exact HB.out|apply below_alloc|apply pw_below_drewN|apply below_drew1)|exact HB.out))) : w.heap.size ≤ gb633));have n4_:=Aside0.mk ((by rw [hg];exact (below_size (by repeat (first|(with_reducible first|exact HB.out|apply below_alloc|apply pw_below_drewN|apply below_drew1)|exact HB.out))) : w.heap.size ≤ gb633));clear HO631;clear HB;have HO631:=n0_;have HB:=n1_;have BK633:=n2_;have GW633:=n3_;have GE633:=n4_;clear n0_ n1_ n2_ n3_ n4_;clear hb hbox hg;have hcz94_0 : w93.cell? ⟨gb633,0,none⟩ = some (.string (⟨#[]⟩ : ByteArray)):=(blk_cell BK633.out 0).trans rfl;have hcz94_1 : w93.cell? ⟨gb633,1,none⟩ = some (.int .i64 0):=(blk_cell BK633.out 1).trans rfl;have hcz94_2 : w93.cell? ⟨gb633,2,none⟩ = some (.bool false):=(blk_cell BK633.out 2).trans rfl;have hcz94_3 : w93.cell? ⟨gb633,3,none⟩ = some (.string (⟨#[]⟩ : ByteArray)):=(blk_cell BK633.out 3).trans rfl;have hcz94_4 : w93.cell? ⟨gb633,4,none⟩ = some (.slice none 0 0):=(blk_cell BK633.out 4).trans rfl;have hfz94_0:=blk_frozen BK633.out 0;have hfz94_1:=blk_frozen BK633.out 1;have hfz94_2:=blk_frozen BK633.out 2;have hfz94_3:=blk_frozen BK633.out 3;have hfz94_4:=blk_frozen BK633.out 4;obtain ⟨Ao95,co95,eo95⟩:=Kd.R_slice HO631.out;subst eo95;have p634 : 0 ≤ ((ji76) : Int):=of_decide_eq_true (by first|(with_reducible assumption)|assumption);have q634 : (ji76) < (l0.length : Int):=of_decide_eq_true (by first|(with_reducible assumption)|assumption);obtain ⟨ad634,A634_4,c634_4,e634,hx634_0,hx634_1,hx634_2,hx634_3,hx634_4,hl634_4,hi634_4⟩:=at_T25 HR0.out (ji76) p634 q634;(try rw [← Nbq79.out] at hx634_2);cases e634;have hn634_0 : ad634.block ≠ gb633:=Nat.ne_of_lt (Nat.lt_of_lt_of_le (by have:=World.block_lt_of_cell? _ _ hx634_0;first|rwa [add_block] at this|exact this) GW633.out);have hn634_1 : ad634.block ≠ gb633:=Nat.ne_of_lt (Nat.lt_of_lt_of_le (by have:=World.block_lt_of_cell? _ _ hx634_0;first|rwa [add_block] at this|exact this) GW633.out);have hn634_2 : ad634.block ≠ gb633:=Nat.ne_of_lt (Nat.lt_of_lt_of_le (by have:=World.block_lt_of_cell? _ _ hx634_0;first|rwa [add_block] at this|exact this) GW633.out);have hn634_3 : ad634.block ≠ gb633:=Nat.ne_of_lt (Nat.lt_of_lt_of_le (by have:=World.block_lt_of_cell? _ _ hx634_0;first|rwa [add_block] at this|exact this) GW633.out);have hn634_4 : ad634.block ≠ gb633:=Nat.ne_of_lt (Nat.lt_of_lt_of_le (by have:=World.block_lt_of_cell? _ _ hx634_0;first|rwa [add_block] at this|exact this) GW633.out);replace hx634_0:=(HB.out.cell (World.block_lt_of_cell? w _ hx634_0)).trans hx634_0;replace hx634_1:=(HB.out.cell (World.block_lt_of_cell? w _ hx634_1)).trans hx634_1;replace hx634_2:=(HB.out.cell (World.block_lt_of_cell? w _ hx634_2)).trans hx634_2;replace hx634_3:=(HB.out.cell (World.block_lt_of_cell? w _ hx634_3)).trans hx634_3;replace hx634_4:=(HB.out.cell (World.block_lt_of_cell? w _ hx634_4)).trans hx634_4;have HR634_4:=Aside0.mk hi634_4;have HC634_4:=Aside0.mk hl634_4;clear hi634_4 hl634_4;replace hx634_0:=(cell_far (p:=⟨gb633,0,none⟩) (by first|(rw [add_block];exact hn634_0)|(show (Addr.add _ _).block ≠ _;rw [add_block];exact hn634_0)|exact hn634_0) (.string t625)).trans hx634_0;replace hx634_1:=(cell_far (p:=⟨gb633,0,none⟩) (by first|(rw [add_block];exact hn634_0)|(show (Addr.add _ _).block ≠ _;rw [add_block];exact hn634_0)|exact hn634_0) (.string t625)).trans hx634_1;replace hx634_2:=(cell_far (p:=⟨gb633,0,none⟩) (by first|(rw [add_block];exact hn634_0)|(show (Addr.add _ _).block ≠ _;rw [add_block];exact hn634_0)|exact hn634_0) (.string t625)).trans hx634_2;replace hx634_3:=(cell_far (p:=⟨gb633,0,none⟩) (by first|(rw [add_block];exact hn634_0)|(show (Addr.add _ _).block ≠ _;rw [add_block];exact hn634_0)|exact hn634_0) (.string t625)).trans hx634_3;replace hx634_4:=(cell_far (p:=⟨gb633,0,none⟩) (by first|(rw [add_block];exact hn634_0)|(show (Addr.add _ _).block ≠ _;rw [add_block];exact hn634_0)|exact hn634_0) (.string t625)).trans hx634_4;replace hx634_0:=(cell_far (p:=⟨gb633,1,none⟩) (by first|(rw [add_block];exact hn634_1)|(show (Addr.add _ _).block ≠ _;rw [add_block];exact hn634_1)|exact hn634_1) (.int .i64 t626)).trans hx634_0;replace hx634_1:=(cell_far (p:=⟨gb633,1,none⟩) (by first|(rw [add_block];exact hn634_1)|(show (Addr.add _ _).block ≠ _;rw [add_block];exact hn634_1)|exact hn634_1) (.int .i64 t626)).trans hx634_1;replace hx634_2:=(cell_far (p:=⟨gb633,1,none⟩) (by first|(rw [add_block];exact hn634_1)|(show (Addr.add _ _).block ≠ _;rw [add_block];exact hn634_1)|exact hn634_1) (.int .i64 t626)).trans hx634_2;replace hx634_3:=(cell_far (p:=⟨gb633,1,none⟩) (by first|(rw [add_block];exact hn634_1)|(show (Addr.add _ _).block ≠ _;rw [add_block];exact hn634_1)|exact hn634_1) (.int .i64 t626)).trans hx634_3;replace hx634_4:=(cell_far (p:=⟨gb633,1,none⟩) (by first|(rw [add_block];exact hn634_1)|(show (Addr.add _ _).block ≠ _;rw [add_block];exact hn634_1)|exact hn634_1) (.int .i64 t626)).trans hx634_4;replace hx634_0:=(cell_far (p:=⟨gb633,2,none⟩) (by first|(rw [add_block];exact hn634_2)|(show (Addr.add _ _).block ≠ _;rw [add_block];exact hn634_2)|exact hn634_2) (.bool t627)).trans hx634_0;replace hx634_1:=(cell_far (p:=⟨gb633,2,none⟩) (by first|(rw [add_block];exact hn634_2)|(show (Addr.add _ _).block ≠ _;rw [add_block];exact hn634_2)|exact hn634_2) (.bool t627)).trans hx634_1;replace hx634_2:=(cell_far (p:=⟨gb633,2,none⟩) (by first|(rw [add_block];exact hn634_2)|(show (Addr.add _ _).block ≠ _;rw [add_block];exact hn634_2)|exact hn634_2) (.bool t627)).trans hx634_2;replace hx634_3:=(cell_far (p:=⟨gb633,2,none⟩) (by first|(rw [add_block];exact hn634_2)|(show (Addr.add _ _).block ≠ _;rw [add_block];exact hn634_2)|exact hn634_2) (.bool t627)).trans hx634_3;replace hx634_4:=(cell_far (p:=⟨gb633,2,none⟩) (by first|(rw [add_block];exact hn634_2)|(show (Addr.add _ _).block ≠ _;rw [add_block];exact hn634_2)|exact hn634_2) (.bool t627)).trans hx634_4;replace hx634_0:=(cell_far (p:=⟨gb633,3,none⟩) (by first|(rw [add_block];exact hn634_3)|(show (Addr.add _ _).block ≠ _;rw [add_block];exact hn634_3)|exact hn634_3) (.string t628)).trans hx634_0;replace hx634_1:=(cell_far (p:=⟨gb633,3,none⟩) (by first|(rw [add_block];exact hn634_3)|(show (Addr.add _ _).block ≠ _;rw [add_block];exact hn634_3)|exact hn634_3) (.string t628)).trans hx634_1;replace hx634_2:=(cell_far (p:=⟨gb633,3,none⟩) (by first|(rw [add_block];exact hn634_3)|(show (Addr.add _ _).block ≠ _;rw [add_block];exact hn634_3)|exact hn634_3) (.string t628)).trans hx634_2;replace hx634_3:=(cell_far (p:=⟨gb633,3,none⟩) (by first|(rw [add_block];exact hn634_3)|(show (Addr.add _ _).block ≠ _;rw [add_block];exact hn634_3)|exact hn634_3) (.string t628)).trans hx634_3;replace hx634_4:=(cell_far (p:=⟨gb633,3,none⟩) (by first|(rw [add_block];exact hn634_3)|(show (Addr.add _ _).block ≠ _;rw [add_block];exact hn634_3)|exact hn634_3) (.string t628)).trans hx634_4;replace hx634_0:=(cell_far (p:=⟨gb633,4,none⟩) (by first|(rw [add_block];exact hn634_4)|(show (Addr.add _ _).block ≠ _;rw [add_block];exact hn634_4)|exact hn634_4) (.slice Ao95 t629.length co95)).trans hx634_0;replace hx634_1:=(cell_far (p:=⟨gb633,4,none⟩) (by first|(rw [add_block];exact hn634_4)|(show (Addr.add _ _).block ≠ _;rw [add_block];exact hn634_4)|exact hn634_4) (.slice Ao95 t629.length co95)).trans hx634_1;replace hx634_2:=(cell_far (p:=⟨gb633,4,none⟩) (by first|(rw [add_block];exact hn634_4)|(show (Addr.add _ _).block ≠ _;rw [add_block];exact hn634_4)|exact hn634_4) (.slice Ao95 t629.length co95)).trans hx634_2;replace hx634_3:=(cell_far (p:=⟨gb633,4,none⟩) (by first|(rw [add_block];exact hn634_4)|(show (Addr.add _ _).block ≠ _;rw [add_block];exact hn634_4)|exact hn634_4) (.slice Ao95 t629.length co95)).trans hx634_3;replace hx634_4:=(cell_far (p:=⟨gb633,4,none⟩) (by first|(rw [add_block];exact hn634_4)|(show (Addr.add _ _).block ≠ _;rw [add_block];exact hn634_4)|exact hn634_4) (.slice Ao95 t629.length co95)).trans hx634_4;clear hn634_0;clear hn634_1;clear hn634_2;clear hn634_3;clear hn634_4;replace p634:=eq_true p634;replace q634:=eq_true q634)|((with_reducible refine gate_dst (N:=10) rfl ?_);refine box_event ?hg (N:=10) ?hd (cs:=#[.string (⟨#[]⟩ : ByteArray),.int .i64 0,.bool false,.string (⟨#[]⟩ : ByteArray),.slice none 0 0]) (t:=25) ?hr ?_;(case hd => rfl);(case hg => rfl);(case hr => first|(go_simp;done)|(go_simp;rfl));intro gb635 hg w96 hbox hb;have n0_:=Aside0.mk (Kd.R_below (by (with_reducible repeat (first|apply Kd.R_alloc|apply Kd.R_drewN|apply Kd.R_drew));exact (Kd.R_mono (Kd.R_far (p:=⟨gb633,4,none⟩) (Kd.R_far (p:=⟨gb633,3,none⟩) (Kd.R_far (p:=⟨gb633,2,none⟩) (Kd.R_far (p:=⟨gb633,1,none⟩) (Kd.R_far (p:=⟨gb633,0,none⟩) (Kd.R_types HO631.out BK633.out (by decide)) (fun _ hk => hk.2) (.string t625)) (fun _ hk => hk.2) (.int .i64 t626)) (fun _ hk => hk.2) (.bool t627)) (fun _ hk => hk.2) (.string t628)) (fun _ hk => hk.2) (.slice Ao95 t629.length co95)) (fun _ h_ => h_.1))) hb);have n1_:=Aside0.mk (blk_below (g:=gb633) (o:=.cells #[.string t625,.int .i64 t626,.bool t627,.string t628,.slice Ao95 t629.length co95] 25 (0,0)) (by (with_reducible repeat (first|refine blk_drewN ?_ _|refine blk_drew ?_|refine blk_alloc ?_ _));refine blk_put (cs:=#[.string t625,.int .i64 t626,.bool t627,.string t628,.slice none 0 0]) ?_ 4 _ rfl;(with_reducible repeat (first|refine blk_drewN ?_ _|refine blk_drew ?_|refine blk_alloc ?_ _));refine blk_put (cs:=#[.string t625,.int .i64 t626,.bool t627,.string (⟨#[]⟩ : ByteArray),.slice none 0 0]) ?_ 3 _ rfl;(with_reducible repeat (first|refine blk_drewN ?_ _|refine blk_drew ?_|refine blk_alloc ?_ _));refine blk_put (cs:=#[.string t625,.int .i64 t626,.bool false,.string (⟨#[]⟩ : ByteArray),.slice none 0 0]) ?_ 2 _ rfl;(with_reducible repeat (first|refine blk_drewN ?_ _|refine blk_drew ?_|refine blk_alloc ?_ _));refine blk_put (cs:=#[.string t625,.int .i64 0,.bool false,.string (⟨#[]⟩ : ByteArray),.slice none 0 0]) ?_ 1 _ rfl;(with_reducible repeat (first|refine blk_drewN ?_ _|refine blk_drew ?_|refine blk_alloc ?_ _));refine blk_put (cs:=#[.string (⟨#[]⟩ : ByteArray),.int .i64 0,.bool false,.string (⟨#[]⟩ : ByteArray),.slice none 0 0]) ?_ 0 _ rfl;(with_reducible repeat (first|refine blk_drewN ?_ _|refine blk_drew ?_|refine blk_alloc ?_ _));exact BK633.out) hb);have n2_:=Aside0.mk (below_step (by repeat (first|(with_reducible first|exact HB.out|apply below_alloc|apply pw_below_drewN|apply below_drew1|refine below_set ?_ GE633.out)|exact HB.out)) hb);have n3_:=Aside0.mk (hbox);have n4_:=Aside0.mk ((by rw [hg];exact (below_size (by repeat (first|(with_reducible first|exact HB.out|apply below_alloc|apply pw_below_drewN|apply below_drew1|refine below_set ?_ GE633.out)|exact HB.out))) : w.heap.size ≤ gb635));have n5_:=Aside0.mk ((by rw [hg];exact (below_size (by repeat (first|(with_reducible first|exact HB.out|apply below_alloc|apply pw_below_drewN|apply below_drew1|refine below_set ?_ GE633.out)|exact HB.out))) : w.heap.size ≤ gb635));have n6_:=Aside0.mk ((by rw [hg];exact Nat.ne_of_lt (blk_lt (g:=gb633) (o:=.cells #[.string t625,.int .i64 t626,.bool t627,.string t628,.slice Ao95 t629.length co95] 25 (0,0)) (by (with_reducible repeat (first|refine blk_drewN ?_ _|refine blk_drew ?_|refine blk_alloc ?_ _));refine blk_put (cs:=#[.string t625,.int .i64 t626,.bool t627,.string t628,.slice none 0 0]) ?_ 4 _ rfl;(with_reducible repeat (first|refine blk_drewN ?_ _|refine blk_drew ?_|refine blk_alloc ?_ _));refine blk_put (cs:=#[.string t625,.int .i64 t626,.bool t627,.string (⟨#[]⟩ : ByteArray),.slice none 0 0]) ?_ 3 _ rfl;(with_reducible repeat (first|refine blk_drewN ?_ _|refine blk_drew ?_|refine blk_alloc ?_ _));refine blk_put (cs:=#[.string t625,.int .i64 t626,.bool false,.string (⟨#[]⟩ : ByteArray),.slice none 0 0]) ?_ 2 _ rfl;(with_reducible repeat (first|refine blk_drewN ?_ _|refine blk_drew ?_|refine blk_alloc ?_ _));refine blk_put (cs:=#[.string t625,.int .i64 0,.bool false,.string (⟨#[]⟩ : ByteArray),.slice none 0 0]) ?_ 1 _ rfl;(with_reducible repeat (first|refine blk_drewN ?_ _|refine blk_drew ?_|refine blk_alloc ?_ _));refine blk_put (cs:=#[.string (⟨#[]⟩ : ByteArray),.int .i64 0,.bool false,.string (⟨#[]⟩ : ByteArray),.slice none 0 0]) ?_ 0 _ rfl;(with_reducible repeat (first|refine blk_drewN ?_ _|refine blk_drew ?_|refine blk_alloc ?_ _));exact BK633.out)) : gb633 ≠ gb635));have n7_:=Aside0.mk ((by rw [hg];exact Nat.ne_of_gt (blk_lt (g:=gb633) (o:=.cells #[.string t625,.int .i64 t626,.bool t627,.string t628,.slice Ao95 t629.length co95] 25 (0,0)) (by (with_reducible repeat (first|refine blk_drewN ?_ _|refine blk_drew ?_|refine blk_alloc ?_ _));refine blk_put (cs:=#[.string t625,.int .i64 t626,.bool t627,.string t628,.slice none 0 0]) ?_ 4 _ rfl;(with_reducible repeat (first|refine blk_drewN ?_ _|refine blk_drew ?_|refine blk_alloc ?_ _));refine blk_put (cs:=#[.string t625,.int .i64 t626,.bool t627,.string (⟨#[]⟩ : ByteArray),.slice none 0 0]) ?_ 3 _ rfl;(with_reducible repeat (first|refine blk_drewN ?_ _|refine blk_drew ?_|refine blk_alloc ?_ _));refine blk_put (cs:=#[.string t625,.int .i64 t626,.bool false,.string (⟨#[]⟩ : ByteArray),.slice none 0 0]) ?_ 2 _ rfl;(with_reducible repeat (first|refine blk_drewN ?_ _|refine blk_drew ?_|refine blk_alloc ?_ _));refine blk_put (cs:=#[.string t625,.int .i64 0,.bool false,.string (⟨#[]⟩ : ByteArray),.slice none 0 0]) ?_ 1 _ rfl;(with_reducible repeat (first|refine blk_drewN ?_ _|refine blk_drew ?_|refine blk_alloc ?_ _));refine blk_put (cs:=#[.string (⟨#[]⟩ : ByteArray),.int .i64 0,.bool false,.string (⟨#[]⟩ : ByteArray),.slice none 0 0]) ?_ 0 _ rfl;(with_reducible repeat (first|refine blk_drewN ?_ _|refine blk_drew ?_|refine blk_alloc ?_ _));exact BK633.out)) : gb635 ≠ gb633));clear HO631;clear BK633;clear HB;have HO631:=n0_;have BK633:=n1_;have HB:=n2_;have BK635:=n3_;have GW635:=n4_;have GE635:=n5_;have NB633_635:=n6_;have NB635_633:=n7_;clear n0_ n1_ n2_ n3_ n4_ n5_ n6_ n7_;clear hb hbox hg;have hnb97:=NB635_633.out;have hnc97:=NB633_635.out;have hcz98_0 : w96.cell? ⟨gb635,0,none⟩ = some (.string (⟨#[]⟩ : ByteArray)):=(blk_cell BK635.out 0).trans rfl;have hcz98_1 : w96.cell? ⟨gb635,1,none⟩ = some (.int .i64 0):=(blk_cell BK635.out 1).trans rfl;have hcz98_2 : w96.cell? ⟨gb635,2,none⟩ = some (.bool false):=(blk_cell BK635.out 2).trans rfl;have hcz98_3 : w96.cell? ⟨gb635,3,none⟩ = some (.string (⟨#[]⟩ : ByteArray)):=(blk_cell BK635.out 3).trans rfl;have hcz98_4 : w96.cell? ⟨gb635,4,none⟩ = some (.slice none 0 0):=(blk_cell BK635.out 4).trans rfl;have hfz98_0:=blk_frozen BK635.out 0;have hfz98_1:=blk_frozen BK635.out 1;have hfz98_2:=blk_frozen BK635.out 2;have hfz98_3:=blk_frozen BK635.out 3;have hfz98_4:=blk_frozen BK635.out 4))
         go_ret
         exact ⟨by first|rfl|(simp [errW_none,errW_some] <;> rfl)|(simp only [← hji76];first|rfl|(simp [errW_none,errW_some] <;> rfl))|(simp [*,errW_none,errW_some] <;> rfl),by repeat (first|(with_reducible first|exact HB.out|apply below_alloc|apply pw_below_drewN|apply below_drew1|refine below_set ?_ GE633.out|refine below_set ?_ GE635.out)|exact HB.out)⟩
       ·replace c80:=Bool.eq_false_iff.mpr c80
        subst c80
        have H1 : (if t632 = 0 then ((cofferlaw14_like.f k1 t625 t626 t627 t628 t629 ((rd_T25 l0 (ji76)).f0) ((rd_T25 l0 (ji76)).f1) (false) ((rd_T25 l0 (ji76)).f3) ((rd_T25 l0 (ji76)).f4)).bind fun t637 => (some t637)) else (some false)) = some r:=by rw [if_neg (show ¬ (false = true) by decide)] at H;exact H
        clear H
        have H:=H1
        clear H1
        by_cases c99 : t632 = 0
        ·rw [if_pos c99] at H
         have c99b0 : (t632 == 0) = true:=beq_iff_eq.mpr c99
         have c99b1 : (t632 != 0) = false:=bne_eq_false_iff_eq.mpr c99
         clear c99
         replace H:=Option.bind_eq_some_iff.mp H
         obtain ⟨t637,A1000,H⟩:=H
         replace H : (some t637) = some r:=H
         have A100:=Aside0.mk A1000
         clear A1000
         obtain rfl:=Option.some.inj H
         go_wp2_with (first|((with_reducible refine gate_callee (f:=13) rfl ?_);refine goesL_ (some 74) rfl rfl Try.func13 (by kernel_rfl) rfl #[.slice A0 l0.length c0] rfl (by (try simp only [List.map_toArray,List.map_cons,List.map_nil]);first|done|rfl|(simp only [List.length_drop,List.length_take];rfl)) ?_;(with_reducible refine (stack_Top.calls _ _ l0 t625 t626 t627 t628 t629 t632 _ ?side1 ?side2 A70.out).mono ?_);(case side1 => repeat (first|exact (Kd.C_below HR0.out HB.out)|(with_reducible refine Kd.C_alloc ?_ _)|(with_reducible refine Kd.C_drewN ?_ _)|(with_reducible refine Kd.C_drew ?_)));(case side2 => exact HC0.out);rintro e w101 ⟨v630,rfl,ho0,hb⟩;refine ⟨_,rfl,?_⟩;have n0_:=Aside0.mk (Kd.R_lower ho0 (below_size (by repeat (first|(with_reducible first|exact HB.out|apply below_alloc|apply pw_below_drewN|apply below_drew1)|exact HB.out))));have n1_:=Aside0.mk (below_step (by repeat (first|(with_reducible first|exact HB.out|apply below_alloc|apply pw_below_drewN|apply below_drew1)|exact HB.out)) hb);clear HB;have HO631:=n0_;have HB:=n1_;clear n0_ n1_;(try clear hb);(try clear hb2);(try clear hk);(try clear hi);(try clear ho0))|((with_reducible refine gate_dst (N:=8) rfl ?_);refine box_event ?hg (N:=8) ?hd (cs:=#[.string (⟨#[]⟩ : ByteArray),.int .i64 0,.bool false,.string (⟨#[]⟩ : ByteArray),.slice none 0 0]) (t:=25) ?hr ?_;(case hd => rfl);(case hg => rfl);(case hr => first|(go_simp;done)|(go_simp;rfl));intro gb633 hg w102 hbox hb;have n0_:=Aside0.mk (Kd.R_below (by (with_reducible repeat (first|apply Kd.R_alloc|apply Kd.R_drewN|apply Kd.R_drew));exact HO631.out) hb);have n1_:=Aside0.mk (below_step (by repeat (first|(with_reducible first|exact HB.out|apply below_alloc|apply pw_below_drewN|apply below_drew1)|exact HB.out)) hb);have n2_:=Aside0.mk (hbox);have n3_:=Aside0.mk ((by rw [hg];exact (below_size (by repeat (first|(with_reducible first|exact HB.out|apply below_alloc|apply pw_below_drewN|apply below_drew1)|exact HB.out))) : w.heap.size ≤ gb633));have n4_:=Aside0.mk ((by rw [hg];exact (below_size (by repeat (first|(with_reducible first|exact HB.out|apply below_alloc|apply pw_below_drewN|apply below_drew1)|exact HB.out))) : w.heap.size ≤ gb633));clear HO631;clear HB;have HO631:=n0_;have HB:=n1_;have BK633:=n2_;have GW633:=n3_;have GE633:=n4_;clear n0_ n1_ n2_ n3_ n4_;clear hb hbox hg;have hcz103_0 : w102.cell? ⟨gb633,0,none⟩ = some (.string (⟨#[]⟩ : ByteArray)):=(blk_cell BK633.out 0).trans rfl;have hcz103_1 : w102.cell? ⟨gb633,1,none⟩ = some (.int .i64 0):=(blk_cell BK633.out 1).trans rfl;have hcz103_2 : w102.cell? ⟨gb633,2,none⟩ = some (.bool false):=(blk_cell BK633.out 2).trans rfl;have hcz103_3 : w102.cell? ⟨gb633,3,none⟩ = some (.string (⟨#[]⟩ : ByteArray)):=(blk_cell BK633.out 3).trans rfl;have hcz103_4 : w102.cell? ⟨gb633,4,none⟩ = some (.slice none 0 0):=(blk_cell BK633.out 4).trans rfl;have hfz103_0:=blk_frozen BK633.out 0;have hfz103_1:=blk_frozen BK633.out 1;have hfz103_2:=blk_frozen BK633.out 2;have hfz103_3:=blk_frozen BK633.out 3;have hfz103_4:=blk_frozen BK633.out 4;obtain ⟨Ao104,co104,eo104⟩:=Kd.R_slice HO631.out;subst eo104;have p634 : 0 ≤ ((ji76) : Int):=of_decide_eq_true (by first|(with_reducible assumption)|assumption);have q634 : (ji76) < (l0.length : Int):=of_decide_eq_true (by first|(with_reducible assumption)|assumption);obtain ⟨ad634,A634_4,c634_4,e634,hx634_0,hx634_1,hx634_2,hx634_3,hx634_4,hl634_4,hi634_4⟩:=at_T25 HR0.out (ji76) p634 q634;(try rw [← Nbq79.out] at hx634_2);cases e634;have hn634_0 : ad634.block ≠ gb633:=Nat.ne_of_lt (Nat.lt_of_lt_of_le (by have:=World.block_lt_of_cell? _ _ hx634_0;first|rwa [add_block] at this|exact this) GW633.out);have hn634_1 : ad634.block ≠ gb633:=Nat.ne_of_lt (Nat.lt_of_lt_of_le (by have:=World.block_lt_of_cell? _ _ hx634_0;first|rwa [add_block] at this|exact this) GW633.out);have hn634_2 : ad634.block ≠ gb633:=Nat.ne_of_lt (Nat.lt_of_lt_of_le (by have:=World.block_lt_of_cell? _ _ hx634_0;first|rwa [add_block] at this|exact this) GW633.out);have hn634_3 : ad634.block ≠ gb633:=Nat.ne_of_lt (Nat.lt_of_lt_of_le (by have:=World.block_lt_of_cell? _ _ hx634_0;first|rwa [add_block] at this|exact this) GW633.out);have hn634_4 : ad634.block ≠ gb633:=Nat.ne_of_lt (Nat.lt_of_lt_of_le (by have:=World.block_lt_of_cell? _ _ hx634_0;first|rwa [add_block] at this|exact this) GW633.out);replace hx634_0:=(HB.out.cell (World.block_lt_of_cell? w _ hx634_0)).trans hx634_0;replace hx634_1:=(HB.out.cell (World.block_lt_of_cell? w _ hx634_1)).trans hx634_1;replace hx634_2:=(HB.out.cell (World.block_lt_of_cell? w _ hx634_2)).trans hx634_2;replace hx634_3:=(HB.out.cell (World.block_lt_of_cell? w _ hx634_3)).trans hx634_3;replace hx634_4:=(HB.out.cell (World.block_lt_of_cell? w _ hx634_4)).trans hx634_4;have HR634_4:=Aside0.mk hi634_4;have HC634_4:=Aside0.mk hl634_4;clear hi634_4 hl634_4;replace hx634_0:=(cell_far (p:=⟨gb633,0,none⟩) (by first|(rw [add_block];exact hn634_0)|(show (Addr.add _ _).block ≠ _;rw [add_block];exact hn634_0)|exact hn634_0) (.string t625)).trans hx634_0;replace hx634_1:=(cell_far (p:=⟨gb633,0,none⟩) (by first|(rw [add_block];exact hn634_0)|(show (Addr.add _ _).block ≠ _;rw [add_block];exact hn634_0)|exact hn634_0) (.string t625)).trans hx634_1;replace hx634_2:=(cell_far (p:=⟨gb633,0,none⟩) (by first|(rw [add_block];exact hn634_0)|(show (Addr.add _ _).block ≠ _;rw [add_block];exact hn634_0)|exact hn634_0) (.string t625)).trans hx634_2;replace hx634_3:=(cell_far (p:=⟨gb633,0,none⟩) (by first|(rw [add_block];exact hn634_0)|(show (Addr.add _ _).block ≠ _;rw [add_block];exact hn634_0)|exact hn634_0) (.string t625)).trans hx634_3;replace hx634_4:=(cell_far (p:=⟨gb633,0,none⟩) (by first|(rw [add_block];exact hn634_0)|(show (Addr.add _ _).block ≠ _;rw [add_block];exact hn634_0)|exact hn634_0) (.string t625)).trans hx634_4;replace hx634_0:=(cell_far (p:=⟨gb633,1,none⟩) (by first|(rw [add_block];exact hn634_1)|(show (Addr.add _ _).block ≠ _;rw [add_block];exact hn634_1)|exact hn634_1) (.int .i64 t626)).trans hx634_0;replace hx634_1:=(cell_far (p:=⟨gb633,1,none⟩) (by first|(rw [add_block];exact hn634_1)|(show (Addr.add _ _).block ≠ _;rw [add_block];exact hn634_1)|exact hn634_1) (.int .i64 t626)).trans hx634_1;replace hx634_2:=(cell_far (p:=⟨gb633,1,none⟩) (by first|(rw [add_block];exact hn634_1)|(show (Addr.add _ _).block ≠ _;rw [add_block];exact hn634_1)|exact hn634_1) (.int .i64 t626)).trans hx634_2;replace hx634_3:=(cell_far (p:=⟨gb633,1,none⟩) (by first|(rw [add_block];exact hn634_1)|(show (Addr.add _ _).block ≠ _;rw [add_block];exact hn634_1)|exact hn634_1) (.int .i64 t626)).trans hx634_3;replace hx634_4:=(cell_far (p:=⟨gb633,1,none⟩) (by first|(rw [add_block];exact hn634_1)|(show (Addr.add _ _).block ≠ _;rw [add_block];exact hn634_1)|exact hn634_1) (.int .i64 t626)).trans hx634_4;replace hx634_0:=(cell_far (p:=⟨gb633,2,none⟩) (by first|(rw [add_block];exact hn634_2)|(show (Addr.add _ _).block ≠ _;rw [add_block];exact hn634_2)|exact hn634_2) (.bool t627)).trans hx634_0;replace hx634_1:=(cell_far (p:=⟨gb633,2,none⟩) (by first|(rw [add_block];exact hn634_2)|(show (Addr.add _ _).block ≠ _;rw [add_block];exact hn634_2)|exact hn634_2) (.bool t627)).trans hx634_1;replace hx634_2:=(cell_far (p:=⟨gb633,2,none⟩) (by first|(rw [add_block];exact hn634_2)|(show (Addr.add _ _).block ≠ _;rw [add_block];exact hn634_2)|exact hn634_2) (.bool t627)).trans hx634_2;replace hx634_3:=(cell_far (p:=⟨gb633,2,none⟩) (by first|(rw [add_block];exact hn634_2)|(show (Addr.add _ _).block ≠ _;rw [add_block];exact hn634_2)|exact hn634_2) (.bool t627)).trans hx634_3;replace hx634_4:=(cell_far (p:=⟨gb633,2,none⟩) (by first|(rw [add_block];exact hn634_2)|(show (Addr.add _ _).block ≠ _;rw [add_block];exact hn634_2)|exact hn634_2) (.bool t627)).trans hx634_4;replace hx634_0:=(cell_far (p:=⟨gb633,3,none⟩) (by first|(rw [add_block];exact hn634_3)|(show (Addr.add _ _).block ≠ _;rw [add_block];exact hn634_3)|exact hn634_3) (.string t628)).trans hx634_0;replace hx634_1:=(cell_far (p:=⟨gb633,3,none⟩) (by first|(rw [add_block];exact hn634_3)|(show (Addr.add _ _).block ≠ _;rw [add_block];exact hn634_3)|exact hn634_3) (.string t628)).trans hx634_1;replace hx634_2:=(cell_far (p:=⟨gb633,3,none⟩) (by first|(rw [add_block];exact hn634_3)|(show (Addr.add _ _).block ≠ _;rw [add_block];exact hn634_3)|exact hn634_3) (.string t628)).trans hx634_2;replace hx634_3:=(cell_far (p:=⟨gb633,3,none⟩) (by first|(rw [add_block];exact hn634_3)|(show (Addr.add _ _).block ≠ _;rw [add_block];exact hn634_3)|exact hn634_3) (.string t628)).trans hx634_3;replace hx634_4:=(cell_far (p:=⟨gb633,3,none⟩) (by first|(rw [add_block];exact hn634_3)|(show (Addr.add _ _).block ≠ _;rw [add_block];exact hn634_3)|exact hn634_3) (.string t628)).trans hx634_4;replace hx634_0:=(cell_far (p:=⟨gb633,4,none⟩) (by first|(rw [add_block];exact hn634_4)|(show (Addr.add _ _).block ≠ _;rw [add_block];exact hn634_4)|exact hn634_4) (.slice Ao104 t629.length co104)).trans hx634_0;replace hx634_1:=(cell_far (p:=⟨gb633,4,none⟩) (by first|(rw [add_block];exact hn634_4)|(show (Addr.add _ _).block ≠ _;rw [add_block];exact hn634_4)|exact hn634_4) (.slice Ao104 t629.length co104)).trans hx634_1;replace hx634_2:=(cell_far (p:=⟨gb633,4,none⟩) (by first|(rw [add_block];exact hn634_4)|(show (Addr.add _ _).block ≠ _;rw [add_block];exact hn634_4)|exact hn634_4) (.slice Ao104 t629.length co104)).trans hx634_2;replace hx634_3:=(cell_far (p:=⟨gb633,4,none⟩) (by first|(rw [add_block];exact hn634_4)|(show (Addr.add _ _).block ≠ _;rw [add_block];exact hn634_4)|exact hn634_4) (.slice Ao104 t629.length co104)).trans hx634_3;replace hx634_4:=(cell_far (p:=⟨gb633,4,none⟩) (by first|(rw [add_block];exact hn634_4)|(show (Addr.add _ _).block ≠ _;rw [add_block];exact hn634_4)|exact hn634_4) (.slice Ao104 t629.length co104)).trans hx634_4;clear hn634_0;clear hn634_1;clear hn634_2;clear hn634_3;clear hn634_4;replace p634:=eq_true p634;replace q634:=eq_true q634)|((with_reducible refine gate_dst (N:=10) rfl ?_);refine box_event ?hg (N:=10) ?hd (cs:=#[.string (⟨#[]⟩ : ByteArray),.int .i64 0,.bool false,.string (⟨#[]⟩ : ByteArray),.slice none 0 0]) (t:=25) ?hr ?_;(case hd => rfl);(case hg => rfl);(case hr => first|(go_simp;done)|(go_simp;rfl));intro gb635 hg w105 hbox hb;have n0_:=Aside0.mk (Kd.R_below (by (with_reducible repeat (first|apply Kd.R_alloc|apply Kd.R_drewN|apply Kd.R_drew));exact (Kd.R_mono (Kd.R_far (p:=⟨gb633,4,none⟩) (Kd.R_far (p:=⟨gb633,3,none⟩) (Kd.R_far (p:=⟨gb633,2,none⟩) (Kd.R_far (p:=⟨gb633,1,none⟩) (Kd.R_far (p:=⟨gb633,0,none⟩) (Kd.R_types HO631.out BK633.out (by decide)) (fun _ hk => hk.2) (.string t625)) (fun _ hk => hk.2) (.int .i64 t626)) (fun _ hk => hk.2) (.bool t627)) (fun _ hk => hk.2) (.string t628)) (fun _ hk => hk.2) (.slice Ao104 t629.length co104)) (fun _ h_ => h_.1))) hb);have n1_:=Aside0.mk (blk_below (g:=gb633) (o:=.cells #[.string t625,.int .i64 t626,.bool t627,.string t628,.slice Ao104 t629.length co104] 25 (0,0)) (by (with_reducible repeat (first|refine blk_drewN ?_ _|refine blk_drew ?_|refine blk_alloc ?_ _));refine blk_put (cs:=#[.string t625,.int .i64 t626,.bool t627,.string t628,.slice none 0 0]) ?_ 4 _ rfl;(with_reducible repeat (first|refine blk_drewN ?_ _|refine blk_drew ?_|refine blk_alloc ?_ _));refine blk_put (cs:=#[.string t625,.int .i64 t626,.bool t627,.string (⟨#[]⟩ : ByteArray),.slice none 0 0]) ?_ 3 _ rfl;(with_reducible repeat (first|refine blk_drewN ?_ _|refine blk_drew ?_|refine blk_alloc ?_ _));refine blk_put (cs:=#[.string t625,.int .i64 t626,.bool false,.string (⟨#[]⟩ : ByteArray),.slice none 0 0]) ?_ 2 _ rfl;(with_reducible repeat (first|refine blk_drewN ?_ _|refine blk_drew ?_|refine blk_alloc ?_ _));refine blk_put (cs:=#[.string t625,.int .i64 0,.bool false,.string (⟨#[]⟩ : ByteArray),.slice none 0 0]) ?_ 1 _ rfl;(with_reducible repeat (first|refine blk_drewN ?_ _|refine blk_drew ?_|refine blk_alloc ?_ _));refine blk_put (cs:=#[.string (⟨#[]⟩ : ByteArray),.int .i64 0,.bool false,.string (⟨#[]⟩ : ByteArray),.slice none 0 0]) ?_ 0 _ rfl;(with_reducible repeat (first|refine blk_drewN ?_ _|refine blk_drew ?_|refine blk_alloc ?_ _));exact BK633.out) hb);have n2_:=Aside0.mk (below_step (by repeat (first|(with_reducible first|exact HB.out|apply below_alloc|apply pw_below_drewN|apply below_drew1|refine below_set ?_ GE633.out)|exact HB.out)) hb);have n3_:=Aside0.mk (hbox);have n4_:=Aside0.mk ((by rw [hg];exact (below_size (by repeat (first|(with_reducible first|exact HB.out|apply below_alloc|apply pw_below_drewN|apply below_drew1|refine below_set ?_ GE633.out)|exact HB.out))) : w.heap.size ≤ gb635));have n5_:=Aside0.mk ((by rw [hg];exact (below_size (by repeat (first|(with_reducible first|exact HB.out|apply below_alloc|apply pw_below_drewN|apply below_drew1|refine below_set ?_ GE633.out)|exact HB.out))) : w.heap.size ≤ gb635));have n6_:=Aside0.mk ((by rw [hg];exact Nat.ne_of_lt (blk_lt (g:=gb633) (o:=.cells #[.string t625,.int .i64 t626,.bool t627,.string t628,.slice Ao104 t629.length co104] 25 (0,0)) (by (with_reducible repeat (first|refine blk_drewN ?_ _|refine blk_drew ?_|refine blk_alloc ?_ _));refine blk_put (cs:=#[.string t625,.int .i64 t626,.bool t627,.string t628,.slice none 0 0]) ?_ 4 _ rfl;(with_reducible repeat (first|refine blk_drewN ?_ _|refine blk_drew ?_|refine blk_alloc ?_ _));refine blk_put (cs:=#[.string t625,.int .i64 t626,.bool t627,.string (⟨#[]⟩ : ByteArray),.slice none 0 0]) ?_ 3 _ rfl;(with_reducible repeat (first|refine blk_drewN ?_ _|refine blk_drew ?_|refine blk_alloc ?_ _));refine blk_put (cs:=#[.string t625,.int .i64 t626,.bool false,.string (⟨#[]⟩ : ByteArray),.slice none 0 0]) ?_ 2 _ rfl;(with_reducible repeat (first|refine blk_drewN ?_ _|refine blk_drew ?_|refine blk_alloc ?_ _));refine blk_put (cs:=#[.string t625,.int .i64 0,.bool false,.string (⟨#[]⟩ : ByteArray),.slice none 0 0]) ?_ 1 _ rfl;(with_reducible repeat (first|refine blk_drewN ?_ _|refine blk_drew ?_|refine blk_alloc ?_ _));refine blk_put (cs:=#[.string (⟨#[]⟩ : ByteArray),.int .i64 0,.bool false,.string (⟨#[]⟩ : ByteArray),.slice none 0 0]) ?_ 0 _ rfl;(with_reducible repeat (first|refine blk_drewN ?_ _|refine blk_drew ?_|refine blk_alloc ?_ _));exact BK633.out)) : gb633 ≠ gb635));have n7_:=Aside0.mk ((by rw [hg];exact Nat.ne_of_gt (blk_lt (g:=gb633) (o:=.cells #[.string t625,.int .i64 t626,.bool t627,.string t628,.slice Ao104 t629.length co104] 25 (0,0)) (by (with_reducible repeat (first|refine blk_drewN ?_ _|refine blk_drew ?_|refine blk_alloc ?_ _));refine blk_put (cs:=#[.string t625,.int .i64 t626,.bool t627,.string t628,.slice none 0 0]) ?_ 4 _ rfl;(with_reducible repeat (first|refine blk_drewN ?_ _|refine blk_drew ?_|refine blk_alloc ?_ _));refine blk_put (cs:=#[.string t625,.int .i64 t626,.bool t627,.string (⟨#[]⟩ : ByteArray),.slice none 0 0]) ?_ 3 _ rfl;(with_reducible repeat (first|refine blk_drewN ?_ _|refine blk_drew ?_|refine blk_alloc ?_ _));refine blk_put (cs:=#[.string t625,.int .i64 t626,.bool false,.string (⟨#[]⟩ : ByteArray),.slice none 0 0]) ?_ 2 _ rfl;(with_reducible repeat (first|refine blk_drewN ?_ _|refine blk_drew ?_|refine blk_alloc ?_ _));refine blk_put (cs:=#[.string t625,.int .i64 0,.bool false,.string (⟨#[]⟩ : ByteArray),.slice none 0 0]) ?_ 1 _ rfl;(with_reducible repeat (first|refine blk_drewN ?_ _|refine blk_drew ?_|refine blk_alloc ?_ _));refine blk_put (cs:=#[.string (⟨#[]⟩ : ByteArray),.int .i64 0,.bool false,.string (⟨#[]⟩ : ByteArray),.slice none 0 0]) ?_ 0 _ rfl;(with_reducible repeat (first|refine blk_drewN ?_ _|refine blk_drew ?_|refine blk_alloc ?_ _));exact BK633.out)) : gb635 ≠ gb633));clear HO631;clear BK633;clear HB;have HO631:=n0_;have BK633:=n1_;have HB:=n2_;have BK635:=n3_;have GW635:=n4_;have GE635:=n5_;have NB633_635:=n6_;have NB635_633:=n7_;clear n0_ n1_ n2_ n3_ n4_ n5_ n6_ n7_;clear hb hbox hg;have hnb106:=NB635_633.out;have hnc106:=NB633_635.out;have hcz107_0 : w105.cell? ⟨gb635,0,none⟩ = some (.string (⟨#[]⟩ : ByteArray)):=(blk_cell BK635.out 0).trans rfl;have hcz107_1 : w105.cell? ⟨gb635,1,none⟩ = some (.int .i64 0):=(blk_cell BK635.out 1).trans rfl;have hcz107_2 : w105.cell? ⟨gb635,2,none⟩ = some (.bool false):=(blk_cell BK635.out 2).trans rfl;have hcz107_3 : w105.cell? ⟨gb635,3,none⟩ = some (.string (⟨#[]⟩ : ByteArray)):=(blk_cell BK635.out 3).trans rfl;have hcz107_4 : w105.cell? ⟨gb635,4,none⟩ = some (.slice none 0 0):=(blk_cell BK635.out 4).trans rfl;have hfz107_0:=blk_frozen BK635.out 0;have hfz107_1:=blk_frozen BK635.out 1;have hfz107_2:=blk_frozen BK635.out 2;have hfz107_3:=blk_frozen BK635.out 3;have hfz107_4:=blk_frozen BK635.out 4;have hcz108_0 : w105.cell? ⟨gb633,0,none⟩ = some (.string t625):=(blk_cell BK633.out 0).trans rfl;have hcz108_1 : w105.cell? ⟨gb633,1,none⟩ = some (.int .i64 t626):=(blk_cell BK633.out 1).trans rfl;have hcz108_2 : w105.cell? ⟨gb633,2,none⟩ = some (.bool t627):=(blk_cell BK633.out 2).trans rfl;have hcz108_3 : w105.cell? ⟨gb633,3,none⟩ = some (.string t628):=(blk_cell BK633.out 3).trans rfl;have hcz108_4 : w105.cell? ⟨gb633,4,none⟩ = some (.slice Ao104 t629.length co104):=(blk_cell BK633.out 4).trans rfl;have hfz108_0:=blk_frozen BK633.out 0;have hfz108_1:=blk_frozen BK633.out 1;have hfz108_2:=blk_frozen BK633.out 2;have hfz108_3:=blk_frozen BK633.out 3;have hfz108_4:=blk_frozen BK633.out 4)|(go_at_call 26;(with_reducible refine (cofferlaw14_like.calls k1 t625 t626 t627 t628 _ _ t629 ((rd_T25 l0 (ji76)).f0) ((rd_T25 l0 (ji76)).f1) false ((rd_T25 l0 (ji76)).f3) _ _ ((rd_T25 l0 (ji76)).f4) t637 _ ?side1 ?side2 ?side3 ?side4 A100.out).mono ?_);(case side1 => refine (Kd.R_reads' (e:=49) (base:=w.heap.size) (ok:=fun k_ => True) (n:=t629.length) (c:=co104) ?_).2.2;exact (by (with_reducible repeat (first|apply Kd.R_alloc|apply Kd.R_drewN|apply Kd.R_drew));exact (Kd.R_mono (Kd.R_far (p:=⟨gb635,4,none⟩) (Kd.R_far (p:=⟨gb635,3,none⟩) (Kd.R_far (p:=⟨gb635,2,none⟩) (Kd.R_far (p:=⟨gb635,1,none⟩) (Kd.R_far (p:=⟨gb635,0,none⟩) (Kd.R_types HO631.out BK635.out (by decide)) (fun _ hk => hk.2) (.string ((rd_T25 l0 (ji76)).f0))) (fun _ hk => hk.2) (.int .i64 ((rd_T25 l0 (ji76)).f1))) (fun _ hk => hk.2) (.bool false)) (fun _ hk => hk.2) (.string ((rd_T25 l0 (ji76)).f3))) (fun _ hk => hk.2) (.slice A634_4 ((rd_T25 l0 (ji76)).f4).length c634_4)) (fun _ h_ => h_.1))));(case side2 => exact (Kd.R_reads' HO631.out).2.1);(case side3 => exact Kd.C_below HR634_4.out (by repeat (first|(with_reducible first|exact HB.out|apply below_alloc|apply pw_below_drewN|apply below_drew1|refine below_set ?_ GE633.out|refine below_set ?_ GE635.out)|exact HB.out)));(case side4 => exact HC634_4.out);rintro e w109 ⟨rfl,hb⟩;have n0_:=Aside0.mk (Kd.R_below (by (with_reducible repeat (first|apply Kd.R_alloc|apply Kd.R_drewN|apply Kd.R_drew));exact (Kd.R_mono (Kd.R_far (p:=⟨gb635,4,none⟩) (Kd.R_far (p:=⟨gb635,3,none⟩) (Kd.R_far (p:=⟨gb635,2,none⟩) (Kd.R_far (p:=⟨gb635,1,none⟩) (Kd.R_far (p:=⟨gb635,0,none⟩) (Kd.R_types HO631.out BK635.out (by decide)) (fun _ hk => hk.2) (.string ((rd_T25 l0 (ji76)).f0))) (fun _ hk => hk.2) (.int .i64 ((rd_T25 l0 (ji76)).f1))) (fun _ hk => hk.2) (.bool false)) (fun _ hk => hk.2) (.string ((rd_T25 l0 (ji76)).f3))) (fun _ hk => hk.2) (.slice A634_4 ((rd_T25 l0 (ji76)).f4).length c634_4)) (fun _ h_ => h_.1))) hb);have n1_:=Aside0.mk (blk_below (g:=gb633) (o:=.cells #[.string t625,.int .i64 t626,.bool t627,.string t628,.slice Ao104 t629.length co104] 25 (0,0)) (by (with_reducible repeat (first|refine blk_drewN ?_ _|refine blk_drew ?_|refine blk_alloc ?_ _));refine blk_far ?_ NB633_635.out _;(with_reducible repeat (first|refine blk_drewN ?_ _|refine blk_drew ?_|refine blk_alloc ?_ _));refine blk_far ?_ NB633_635.out _;(with_reducible repeat (first|refine blk_drewN ?_ _|refine blk_drew ?_|refine blk_alloc ?_ _));refine blk_far ?_ NB633_635.out _;(with_reducible repeat (first|refine blk_drewN ?_ _|refine blk_drew ?_|refine blk_alloc ?_ _));refine blk_far ?_ NB633_635.out _;(with_reducible repeat (first|refine blk_drewN ?_ _|refine blk_drew ?_|refine blk_alloc ?_ _));refine blk_far ?_ NB633_635.out _;(with_reducible repeat (first|refine blk_drewN ?_ _|refine blk_drew ?_|refine blk_alloc ?_ _));exact BK633.out) hb);have n2_:=Aside0.mk (blk_below (g:=gb635) (o:=.cells #[.string ((rd_T25 l0 (ji76)).f0),.int .i64 ((rd_T25 l0 (ji76)).f1),.bool false,.string ((rd_T25 l0 (ji76)).f3),.slice A634_4 ((rd_T25 l0 (ji76)).f4).length c634_4] 25 (0,0)) (by (with_reducible repeat (first|refine blk_drewN ?_ _|refine blk_drew ?_|refine blk_alloc ?_ _));refine blk_put (cs:=#[.string ((rd_T25 l0 (ji76)).f0),.int .i64 ((rd_T25 l0 (ji76)).f1),.bool false,.string ((rd_T25 l0 (ji76)).f3),.slice none 0 0]) ?_ 4 _ rfl;(with_reducible repeat (first|refine blk_drewN ?_ _|refine blk_drew ?_|refine blk_alloc ?_ _));refine blk_put (cs:=#[.string ((rd_T25 l0 (ji76)).f0),.int .i64 ((rd_T25 l0 (ji76)).f1),.bool false,.string (⟨#[]⟩ : ByteArray),.slice none 0 0]) ?_ 3 _ rfl;(with_reducible repeat (first|refine blk_drewN ?_ _|refine blk_drew ?_|refine blk_alloc ?_ _));refine blk_put (cs:=#[.string ((rd_T25 l0 (ji76)).f0),.int .i64 ((rd_T25 l0 (ji76)).f1),.bool false,.string (⟨#[]⟩ : ByteArray),.slice none 0 0]) ?_ 2 _ rfl;(with_reducible repeat (first|refine blk_drewN ?_ _|refine blk_drew ?_|refine blk_alloc ?_ _));refine blk_put (cs:=#[.string ((rd_T25 l0 (ji76)).f0),.int .i64 0,.bool false,.string (⟨#[]⟩ : ByteArray),.slice none 0 0]) ?_ 1 _ rfl;(with_reducible repeat (first|refine blk_drewN ?_ _|refine blk_drew ?_|refine blk_alloc ?_ _));refine blk_put (cs:=#[.string (⟨#[]⟩ : ByteArray),.int .i64 0,.bool false,.string (⟨#[]⟩ : ByteArray),.slice none 0 0]) ?_ 0 _ rfl;(with_reducible repeat (first|refine blk_drewN ?_ _|refine blk_drew ?_|refine blk_alloc ?_ _));exact BK635.out) hb);have n3_:=Aside0.mk (below_step (by repeat (first|(with_reducible first|exact HB.out|apply below_alloc|apply pw_below_drewN|apply below_drew1|refine below_set ?_ GE633.out|refine below_set ?_ GE635.out)|exact HB.out)) hb);clear HO631;clear BK633;clear BK635;clear HB;have HO631:=n0_;have BK633:=n1_;have BK635:=n2_;have HB:=n3_;clear n0_ n1_ n2_ n3_;(try clear hb);(try clear hb2);(try clear hk);(try clear hi)))
         go_ret
         exact ⟨by first|rfl|(simp [errW_none,errW_some] <;> rfl)|(simp only [← hji76];first|rfl|(simp [errW_none,errW_some] <;> rfl))|(simp [*,errW_none,errW_some] <;> rfl),by repeat (first|(with_reducible first|exact HB.out|apply below_alloc|apply pw_below_drewN|apply below_drew1|refine below_set ?_ GE633.out|refine below_set ?_ GE635.out)|exact HB.out)⟩
        ·rw [if_neg c99] at H
         have c99b0 : (t632 == 0) = false:=beq_eq_false_iff_ne.mpr c99
         have c99b1 : (t632 != 0) = true:=bne_iff_ne.mpr c99
         obtain rfl:=Option.some.inj H
         go_wp2_with (first|((with_reducible refine gate_callee (f:=13) rfl ?_);refine goesL_ (some 74) rfl rfl Try.func13 (by kernel_rfl) rfl #[.slice A0 l0.length c0] rfl (by (try simp only [List.map_toArray,List.map_cons,List.map_nil]);first|done|rfl|(simp only [List.length_drop,List.length_take];rfl)) ?_;(with_reducible refine (stack_Top.calls _ _ l0 t625 t626 t627 t628 t629 t632 _ ?side1 ?side2 A70.out).mono ?_);(case side1 => repeat (first|exact (Kd.C_below HR0.out HB.out)|(with_reducible refine Kd.C_alloc ?_ _)|(with_reducible refine Kd.C_drewN ?_ _)|(with_reducible refine Kd.C_drew ?_)));(case side2 => exact HC0.out);rintro e w110 ⟨v630,rfl,ho0,hb⟩;refine ⟨_,rfl,?_⟩;have n0_:=Aside0.mk (Kd.R_lower ho0 (below_size (by repeat (first|(with_reducible first|exact HB.out|apply below_alloc|apply pw_below_drewN|apply below_drew1)|exact HB.out))));have n1_:=Aside0.mk (below_step (by repeat (first|(with_reducible first|exact HB.out|apply below_alloc|apply pw_below_drewN|apply below_drew1)|exact HB.out)) hb);clear HB;have HO631:=n0_;have HB:=n1_;clear n0_ n1_;(try clear hb);(try clear hb2);(try clear hk);(try clear hi);(try clear ho0))|((with_reducible refine gate_dst (N:=8) rfl ?_);refine box_event ?hg (N:=8) ?hd (cs:=#[.string (⟨#[]⟩ : ByteArray),.int .i64 0,.bool false,.string (⟨#[]⟩ : ByteArray),.slice none 0 0]) (t:=25) ?hr ?_;(case hd => rfl);(case hg => rfl);(case hr => first|(go_simp;done)|(go_simp;rfl));intro gb633 hg w111 hbox hb;have n0_:=Aside0.mk (Kd.R_below (by (with_reducible repeat (first|apply Kd.R_alloc|apply Kd.R_drewN|apply Kd.R_drew));exact HO631.out) hb);have n1_:=Aside0.mk (below_step (by repeat (first|(with_reducible first|exact HB.out|apply below_alloc|apply pw_below_drewN|apply below_drew1)|exact HB.out)) hb);have n2_:=Aside0.mk (hbox);have n3_:=Aside0.mk ((by rw [hg];exact (below_size (by repeat (first|(with_reducible first|exact HB.out|apply below_alloc|apply pw_below_drewN|apply below_drew1)|exact HB.out))) : w.heap.size ≤ gb633));have n4_:=Aside0.mk ((by rw [hg];exact (below_size (by repeat (first|(with_reducible first|exact HB.out|apply below_alloc|apply pw_below_drewN|apply below_drew1)|exact HB.out))) : w.heap.size ≤ gb633));clear HO631;clear HB;have HO631:=n0_;have HB:=n1_;have BK633:=n2_;have GW633:=n3_;have GE633:=n4_;clear n0_ n1_ n2_ n3_ n4_;clear hb hbox hg;have hcz112_0 : w111.cell? ⟨gb633,0,none⟩ = some (.string (⟨#[]⟩ : ByteArray)):=(blk_cell BK633.out 0).trans rfl;have hcz112_1 : w111.cell? ⟨gb633,1,none⟩ = some (.int .i64 0):=(blk_cell BK633.out 1).trans rfl;have hcz112_2 : w111.cell? ⟨gb633,2,none⟩ = some (.bool false):=(blk_cell BK633.out 2).trans rfl;have hcz112_3 : w111.cell? ⟨gb633,3,none⟩ = some (.string (⟨#[]⟩ : ByteArray)):=(blk_cell BK633.out 3).trans rfl;have hcz112_4 : w111.cell? ⟨gb633,4,none⟩ = some (.slice none 0 0):=(blk_cell BK633.out 4).trans rfl;have hfz112_0:=blk_frozen BK633.out 0;have hfz112_1:=blk_frozen BK633.out 1;have hfz112_2:=blk_frozen BK633.out 2;have hfz112_3:=blk_frozen BK633.out 3;have hfz112_4:=blk_frozen BK633.out 4;obtain ⟨Ao113,co113,eo113⟩:=Kd.R_slice HO631.out;subst eo113;have p634 : 0 ≤ ((ji76) : Int):=of_decide_eq_true (by first|(with_reducible assumption)|assumption);have q634 : (ji76) < (l0.length : Int):=of_decide_eq_true (by first|(with_reducible assumption)|assumption);obtain ⟨ad634,A634_4,c634_4,e634,hx634_0,hx634_1,hx634_2,hx634_3,hx634_4,hl634_4,hi634_4⟩:=at_T25 HR0.out (ji76) p634 q634;(try rw [← Nbq79.out] at hx634_2);cases e634;have hn634_0 : ad634.block ≠ gb633:=Nat.ne_of_lt (Nat.lt_of_lt_of_le (by have:=World.block_lt_of_cell? _ _ hx634_0;first|rwa [add_block] at this|exact this) GW633.out);have hn634_1 : ad634.block ≠ gb633:=Nat.ne_of_lt (Nat.lt_of_lt_of_le (by have:=World.block_lt_of_cell? _ _ hx634_0;first|rwa [add_block] at this|exact this) GW633.out);have hn634_2 : ad634.block ≠ gb633:=Nat.ne_of_lt (Nat.lt_of_lt_of_le (by have:=World.block_lt_of_cell? _ _ hx634_0;first|rwa [add_block] at this|exact this) GW633.out);have hn634_3 : ad634.block ≠ gb633:=Nat.ne_of_lt (Nat.lt_of_lt_of_le (by have:=World.block_lt_of_cell? _ _ hx634_0;first|rwa [add_block] at this|exact this) GW633.out);have hn634_4 : ad634.block ≠ gb633:=Nat.ne_of_lt (Nat.lt_of_lt_of_le (by have:=World.block_lt_of_cell? _ _ hx634_0;first|rwa [add_block] at this|exact this) GW633.out);replace hx634_0:=(HB.out.cell (World.block_lt_of_cell? w _ hx634_0)).trans hx634_0;replace hx634_1:=(HB.out.cell (World.block_lt_of_cell? w _ hx634_1)).trans hx634_1;replace hx634_2:=(HB.out.cell (World.block_lt_of_cell? w _ hx634_2)).trans hx634_2;replace hx634_3:=(HB.out.cell (World.block_lt_of_cell? w _ hx634_3)).trans hx634_3;replace hx634_4:=(HB.out.cell (World.block_lt_of_cell? w _ hx634_4)).trans hx634_4;have HR634_4:=Aside0.mk hi634_4;have HC634_4:=Aside0.mk hl634_4;clear hi634_4 hl634_4;replace hx634_0:=(cell_far (p:=⟨gb633,0,none⟩) (by first|(rw [add_block];exact hn634_0)|(show (Addr.add _ _).block ≠ _;rw [add_block];exact hn634_0)|exact hn634_0) (.string t625)).trans hx634_0;replace hx634_1:=(cell_far (p:=⟨gb633,0,none⟩) (by first|(rw [add_block];exact hn634_0)|(show (Addr.add _ _).block ≠ _;rw [add_block];exact hn634_0)|exact hn634_0) (.string t625)).trans hx634_1;replace hx634_2:=(cell_far (p:=⟨gb633,0,none⟩) (by first|(rw [add_block];exact hn634_0)|(show (Addr.add _ _).block ≠ _;rw [add_block];exact hn634_0)|exact hn634_0) (.string t625)).trans hx634_2;replace hx634_3:=(cell_far (p:=⟨gb633,0,none⟩) (by first|(rw [add_block];exact hn634_0)|(show (Addr.add _ _).block ≠ _;rw [add_block];exact hn634_0)|exact hn634_0) (.string t625)).trans hx634_3;replace hx634_4:=(cell_far (p:=⟨gb633,0,none⟩) (by first|(rw [add_block];exact hn634_0)|(show (Addr.add _ _).block ≠ _;rw [add_block];exact hn634_0)|exact hn634_0) (.string t625)).trans hx634_4;replace hx634_0:=(cell_far (p:=⟨gb633,1,none⟩) (by first|(rw [add_block];exact hn634_1)|(show (Addr.add _ _).block ≠ _;rw [add_block];exact hn634_1)|exact hn634_1) (.int .i64 t626)).trans hx634_0;replace hx634_1:=(cell_far (p:=⟨gb633,1,none⟩) (by first|(rw [add_block];exact hn634_1)|(show (Addr.add _ _).block ≠ _;rw [add_block];exact hn634_1)|exact hn634_1) (.int .i64 t626)).trans hx634_1;replace hx634_2:=(cell_far (p:=⟨gb633,1,none⟩) (by first|(rw [add_block];exact hn634_1)|(show (Addr.add _ _).block ≠ _;rw [add_block];exact hn634_1)|exact hn634_1) (.int .i64 t626)).trans hx634_2;replace hx634_3:=(cell_far (p:=⟨gb633,1,none⟩) (by first|(rw [add_block];exact hn634_1)|(show (Addr.add _ _).block ≠ _;rw [add_block];exact hn634_1)|exact hn634_1) (.int .i64 t626)).trans hx634_3;replace hx634_4:=(cell_far (p:=⟨gb633,1,none⟩) (by first|(rw [add_block];exact hn634_1)|(show (Addr.add _ _).block ≠ _;rw [add_block];exact hn634_1)|exact hn634_1) (.int .i64 t626)).trans hx634_4;replace hx634_0:=(cell_far (p:=⟨gb633,2,none⟩) (by first|(rw [add_block];exact hn634_2)|(show (Addr.add _ _).block ≠ _;rw [add_block];exact hn634_2)|exact hn634_2) (.bool t627)).trans hx634_0;replace hx634_1:=(cell_far (p:=⟨gb633,2,none⟩) (by first|(rw [add_block];exact hn634_2)|(show (Addr.add _ _).block ≠ _;rw [add_block];exact hn634_2)|exact hn634_2) (.bool t627)).trans hx634_1;replace hx634_2:=(cell_far (p:=⟨gb633,2,none⟩) (by first|(rw [add_block];exact hn634_2)|(show (Addr.add _ _).block ≠ _;rw [add_block];exact hn634_2)|exact hn634_2) (.bool t627)).trans hx634_2;replace hx634_3:=(cell_far (p:=⟨gb633,2,none⟩) (by first|(rw [add_block];exact hn634_2)|(show (Addr.add _ _).block ≠ _;rw [add_block];exact hn634_2)|exact hn634_2) (.bool t627)).trans hx634_3;replace hx634_4:=(cell_far (p:=⟨gb633,2,none⟩) (by first|(rw [add_block];exact hn634_2)|(show (Addr.add _ _).block ≠ _;rw [add_block];exact hn634_2)|exact hn634_2) (.bool t627)).trans hx634_4;replace hx634_0:=(cell_far (p:=⟨gb633,3,none⟩) (by first|(rw [add_block];exact hn634_3)|(show (Addr.add _ _).block ≠ _;rw [add_block];exact hn634_3)|exact hn634_3) (.string t628)).trans hx634_0;replace hx634_1:=(cell_far (p:=⟨gb633,3,none⟩) (by first|(rw [add_block];exact hn634_3)|(show (Addr.add _ _).block ≠ _;rw [add_block];exact hn634_3)|exact hn634_3) (.string t628)).trans hx634_1;replace hx634_2:=(cell_far (p:=⟨gb633,3,none⟩) (by first|(rw [add_block];exact hn634_3)|(show (Addr.add _ _).block ≠ _;rw [add_block];exact hn634_3)|exact hn634_3) (.string t628)).trans hx634_2;replace hx634_3:=(cell_far (p:=⟨gb633,3,none⟩) (by first|(rw [add_block];exact hn634_3)|(show (Addr.add _ _).block ≠ _;rw [add_block];exact hn634_3)|exact hn634_3) (.string t628)).trans hx634_3;replace hx634_4:=(cell_far (p:=⟨gb633,3,none⟩) (by first|(rw [add_block];exact hn634_3)|(show (Addr.add _ _).block ≠ _;rw [add_block];exact hn634_3)|exact hn634_3) (.string t628)).trans hx634_4;replace hx634_0:=(cell_far (p:=⟨gb633,4,none⟩) (by first|(rw [add_block];exact hn634_4)|(show (Addr.add _ _).block ≠ _;rw [add_block];exact hn634_4)|exact hn634_4) (.slice Ao113 t629.length co113)).trans hx634_0;replace hx634_1:=(cell_far (p:=⟨gb633,4,none⟩) (by first|(rw [add_block];exact hn634_4)|(show (Addr.add _ _).block ≠ _;rw [add_block];exact hn634_4)|exact hn634_4) (.slice Ao113 t629.length co113)).trans hx634_1;replace hx634_2:=(cell_far (p:=⟨gb633,4,none⟩) (by first|(rw [add_block];exact hn634_4)|(show (Addr.add _ _).block ≠ _;rw [add_block];exact hn634_4)|exact hn634_4) (.slice Ao113 t629.length co113)).trans hx634_2;replace hx634_3:=(cell_far (p:=⟨gb633,4,none⟩) (by first|(rw [add_block];exact hn634_4)|(show (Addr.add _ _).block ≠ _;rw [add_block];exact hn634_4)|exact hn634_4) (.slice Ao113 t629.length co113)).trans hx634_3;replace hx634_4:=(cell_far (p:=⟨gb633,4,none⟩) (by first|(rw [add_block];exact hn634_4)|(show (Addr.add _ _).block ≠ _;rw [add_block];exact hn634_4)|exact hn634_4) (.slice Ao113 t629.length co113)).trans hx634_4;clear hn634_0;clear hn634_1;clear hn634_2;clear hn634_3;clear hn634_4;replace p634:=eq_true p634;replace q634:=eq_true q634)|((with_reducible refine gate_dst (N:=10) rfl ?_);refine box_event ?hg (N:=10) ?hd (cs:=#[.string (⟨#[]⟩ : ByteArray),.int .i64 0,.bool false,.string (⟨#[]⟩ : ByteArray),.slice none 0 0]) (t:=25) ?hr ?_;(case hd => rfl);(case hg => rfl);(case hr => first|(go_simp;done)|(go_simp;rfl));intro gb635 hg w114 hbox hb;have n0_:=Aside0.mk (Kd.R_below (by (with_reducible repeat (first|apply Kd.R_alloc|apply Kd.R_drewN|apply Kd.R_drew));exact (Kd.R_mono (Kd.R_far (p:=⟨gb633,4,none⟩) (Kd.R_far (p:=⟨gb633,3,none⟩) (Kd.R_far (p:=⟨gb633,2,none⟩) (Kd.R_far (p:=⟨gb633,1,none⟩) (Kd.R_far (p:=⟨gb633,0,none⟩) (Kd.R_types HO631.out BK633.out (by decide)) (fun _ hk => hk.2) (.string t625)) (fun _ hk => hk.2) (.int .i64 t626)) (fun _ hk => hk.2) (.bool t627)) (fun _ hk => hk.2) (.string t628)) (fun _ hk => hk.2) (.slice Ao113 t629.length co113)) (fun _ h_ => h_.1))) hb);have n1_:=Aside0.mk (blk_below (g:=gb633) (o:=.cells #[.string t625,.int .i64 t626,.bool t627,.string t628,.slice Ao113 t629.length co113] 25 (0,0)) (by (with_reducible repeat (first|refine blk_drewN ?_ _|refine blk_drew ?_|refine blk_alloc ?_ _));refine blk_put (cs:=#[.string t625,.int .i64 t626,.bool t627,.string t628,.slice none 0 0]) ?_ 4 _ rfl;(with_reducible repeat (first|refine blk_drewN ?_ _|refine blk_drew ?_|refine blk_alloc ?_ _));refine blk_put (cs:=#[.string t625,.int .i64 t626,.bool t627,.string (⟨#[]⟩ : ByteArray),.slice none 0 0]) ?_ 3 _ rfl;(with_reducible repeat (first|refine blk_drewN ?_ _|refine blk_drew ?_|refine blk_alloc ?_ _));refine blk_put (cs:=#[.string t625,.int .i64 t626,.bool false,.string (⟨#[]⟩ : ByteArray),.slice none 0 0]) ?_ 2 _ rfl;(with_reducible repeat (first|refine blk_drewN ?_ _|refine blk_drew ?_|refine blk_alloc ?_ _));refine blk_put (cs:=#[.string t625,.int .i64 0,.bool false,.string (⟨#[]⟩ : ByteArray),.slice none 0 0]) ?_ 1 _ rfl;(with_reducible repeat (first|refine blk_drewN ?_ _|refine blk_drew ?_|refine blk_alloc ?_ _));refine blk_put (cs:=#[.string (⟨#[]⟩ : ByteArray),.int .i64 0,.bool false,.string (⟨#[]⟩ : ByteArray),.slice none 0 0]) ?_ 0 _ rfl;(with_reducible repeat (first|refine blk_drewN ?_ _|refine blk_drew ?_|refine blk_alloc ?_ _));exact BK633.out) hb);have n2_:=Aside0.mk (below_step (by repeat (first|(with_reducible first|exact HB.out|apply below_alloc|apply pw_below_drewN|apply below_drew1|refine below_set ?_ GE633.out)|exact HB.out)) hb);have n3_:=Aside0.mk (hbox);have n4_:=Aside0.mk ((by rw [hg];exact (below_size (by repeat (first|(with_reducible first|exact HB.out|apply below_alloc|apply pw_below_drewN|apply below_drew1|refine below_set ?_ GE633.out)|exact HB.out))) : w.heap.size ≤ gb635));have n5_:=Aside0.mk ((by rw [hg];exact (below_size (by repeat (first|(with_reducible first|exact HB.out|apply below_alloc|apply pw_below_drewN|apply below_drew1|refine below_set ?_ GE633.out)|exact HB.out))) : w.heap.size ≤ gb635));have n6_:=Aside0.mk ((by rw [hg];exact Nat.ne_of_lt (blk_lt (g:=gb633) (o:=.cells #[.string t625,.int .i64 t626,.bool t627,.string t628,.slice Ao113 t629.length co113] 25 (0,0)) (by (with_reducible repeat (first|refine blk_drewN ?_ _|refine blk_drew ?_|refine blk_alloc ?_ _));refine blk_put (cs:=#[.string t625,.int .i64 t626,.bool t627,.string t628,.slice none 0 0]) ?_ 4 _ rfl;(with_reducible repeat (first|refine blk_drewN ?_ _|refine blk_drew ?_|refine blk_alloc ?_ _));refine blk_put (cs:=#[.string t625,.int .i64 t626,.bool t627,.string (⟨#[]⟩ : ByteArray),.slice none 0 0]) ?_ 3 _ rfl;(with_reducible repeat (first|refine blk_drewN ?_ _|refine blk_drew ?_|refine blk_alloc ?_ _));refine blk_put (cs:=#[.string t625,.int .i64 t626,.bool false,.string (⟨#[]⟩ : ByteArray),.slice none 0 0]) ?_ 2 _ rfl;(with_reducible repeat (first|refine blk_drewN ?_ _|refine blk_drew ?_|refine blk_alloc ?_ _));refine blk_put (cs:=#[.string t625,.int .i64 0,.bool false,.string (⟨#[]⟩ : ByteArray),.slice none 0 0]) ?_ 1 _ rfl;(with_reducible repeat (first|refine blk_drewN ?_ _|refine blk_drew ?_|refine blk_alloc ?_ _));refine blk_put (cs:=#[.string (⟨#[]⟩ : ByteArray),.int .i64 0,.bool false,.string (⟨#[]⟩ : ByteArray),.slice none 0 0]) ?_ 0 _ rfl;(with_reducible repeat (first|refine blk_drewN ?_ _|refine blk_drew ?_|refine blk_alloc ?_ _));exact BK633.out)) : gb633 ≠ gb635));have n7_:=Aside0.mk ((by rw [hg];exact Nat.ne_of_gt (blk_lt (g:=gb633) (o:=.cells #[.string t625,.int .i64 t626,.bool t627,.string t628,.slice Ao113 t629.length co113] 25 (0,0)) (by (with_reducible repeat (first|refine blk_drewN ?_ _|refine blk_drew ?_|refine blk_alloc ?_ _));refine blk_put (cs:=#[.string t625,.int .i64 t626,.bool t627,.string t628,.slice none 0 0]) ?_ 4 _ rfl;(with_reducible repeat (first|refine blk_drewN ?_ _|refine blk_drew ?_|refine blk_alloc ?_ _));refine blk_put (cs:=#[.string t625,.int .i64 t626,.bool t627,.string (⟨#[]⟩ : ByteArray),.slice none 0 0]) ?_ 3 _ rfl;(with_reducible repeat (first|refine blk_drewN ?_ _|refine blk_drew ?_|refine blk_alloc ?_ _));refine blk_put (cs:=#[.string t625,.int .i64 t626,.bool false,.string (⟨#[]⟩ : ByteArray),.slice none 0 0]) ?_ 2 _ rfl;(with_reducible repeat (first|refine blk_drewN ?_ _|refine blk_drew ?_|refine blk_alloc ?_ _));refine blk_put (cs:=#[.string t625,.int .i64 0,.bool false,.string (⟨#[]⟩ : ByteArray),.slice none 0 0]) ?_ 1 _ rfl;(with_reducible repeat (first|refine blk_drewN ?_ _|refine blk_drew ?_|refine blk_alloc ?_ _));refine blk_put (cs:=#[.string (⟨#[]⟩ : ByteArray),.int .i64 0,.bool false,.string (⟨#[]⟩ : ByteArray),.slice none 0 0]) ?_ 0 _ rfl;(with_reducible repeat (first|refine blk_drewN ?_ _|refine blk_drew ?_|refine blk_alloc ?_ _));exact BK633.out)) : gb635 ≠ gb633));clear HO631;clear BK633;clear HB;have HO631:=n0_;have BK633:=n1_;have HB:=n2_;have BK635:=n3_;have GW635:=n4_;have GE635:=n5_;have NB633_635:=n6_;have NB635_633:=n7_;clear n0_ n1_ n2_ n3_ n4_ n5_ n6_ n7_;clear hb hbox hg;have hnb115:=NB635_633.out;have hnc115:=NB633_635.out;have hcz116_0 : w114.cell? ⟨gb635,0,none⟩ = some (.string (⟨#[]⟩ : ByteArray)):=(blk_cell BK635.out 0).trans rfl;have hcz116_1 : w114.cell? ⟨gb635,1,none⟩ = some (.int .i64 0):=(blk_cell BK635.out 1).trans rfl;have hcz116_2 : w114.cell? ⟨gb635,2,none⟩ = some (.bool false):=(blk_cell BK635.out 2).trans rfl;have hcz116_3 : w114.cell? ⟨gb635,3,none⟩ = some (.string (⟨#[]⟩ : ByteArray)):=(blk_cell BK635.out 3).trans rfl;have hcz116_4 : w114.cell? ⟨gb635,4,none⟩ = some (.slice none 0 0):=(blk_cell BK635.out 4).trans rfl;have hfz116_0:=blk_frozen BK635.out 0;have hfz116_1:=blk_frozen BK635.out 1;have hfz116_2:=blk_frozen BK635.out 2;have hfz116_3:=blk_frozen BK635.out 3;have hfz116_4:=blk_frozen BK635.out 4))
         go_ret
         exact ⟨by first|rfl|(simp [errW_none,errW_some] <;> rfl)|(simp only [← hji76];first|rfl|(simp [errW_none,errW_some] <;> rfl))|(simp [*,errW_none,errW_some] <;> rfl),by repeat (first|(with_reducible first|exact HB.out|apply below_alloc|apply pw_below_drewN|apply below_drew1|refine below_set ?_ GE633.out|refine below_set ?_ GE635.out)|exact HB.out)⟩
      ·rw [if_neg c78] at H
       exact absurd H (by simp)
     ·rw [if_neg c77] at H
      exact absurd H (by simp)

end Go.Proofs.Ytmgiolijjheodaa.X
