-- By a program of this session (wip/xprint.py over the kit's print).
import Derived.Test.YtmgiolijjheodaaX0
import Derived.Shelf.Abstract
import Derived.Test.YtmgiolijjheodaaX3
import Derived.Test.YtmgiolijjheodaaX5
namespace Go.Proofs.Ytmgiolijjheodaa.X
open Go.RowKit Go.Proofs.YtmgiolijjheodaaW.PrintWords Go.Proofs.YtmgiolijjheodaaW.PrintLast Go.Proofs.YtmgiolijjheodaaW.PrintMore
attribute [local go_sem] Go.Proofs.Ytmgiolijjheodaa.Z.leq_string Go.Proofs.Ytmgiolijjheodaa.Z.gtr_string Go.Proofs.Ytmgiolijjheodaa.Z.geq_string   -- for this text's walks alone
set_option linter.unusedVariables false
set_option linter.unusedSimpArgs false

/-! ### stack_chosen: function 38 -/
def stack_chosen.l0 (p : Int → Option Bool) : Nat → List (S25) → List (S25) → Int → Int → Option ((List (S25)))
 | 0,_,_,_,_ => none
 | k + 1,x5,x8,x9,x10 => if x10 < x9 then (if 0 ≤ x10 then (if x10 < (x8.length : Int) then ((p x10).bind fun t108 => (if t108 = true then ((stack_own.f ((rd_T25 x8 x10).f0) ((rd_T25 x8 x10).f1) ((rd_T25 x8 x10).f2) ((rd_T25 x8 x10).f3) ((rd_T25 x8 x10).f4)).bind fun bt109 => (if x5.length < 1954687338268 then (stack_chosen.l0 p k (x5 ++ [(⟨bt109.1,bt109.2.1,bt109.2.2.1,bt109.2.2.2.1,bt109.2.2.2.2⟩ : S25)]) x8 x9 (wrap64 (x10 + 1))) else (none))) else (stack_chosen.l0 p k x5 x8 x9 (wrap64 (x10 + 1))))) else (none)) else (none)) else (some x5)
def stack_chosen.f (p : Int → Option Bool) (k : Nat) (l0 : List (S25)) : Option ((List (S25))):=stack_chosen.l0 p k ([] : List (S25)) l0 (l0.length : Int) 0
theorem stack_chosen.mono_l (p : Int → Option Bool) : ∀ k,(∀ y0 y1 y2 y3,LeO (stack_chosen.l0 p k y0 y1 y2 y3) (stack_chosen.l0 p (k + 1) y0 y1 y2 y3))
 | 0 => fun _ _ _ _ r h => by simp [stack_chosen.l0] at h
 | k + 1 => by
  have ih0:=stack_chosen.mono_l p k
  ·intro y0 y1 y2 y3
   unfold stack_chosen.l0
   repeat' first
   | (with_reducible exact ih0 _ _ _ _)
   | (with_reducible exact LeO.refl _)
   | (with_reducible exact LeO.none _)
   | (with_reducible refine LeO.ite ?_ ?_)
   | (with_reducible refine LeO.bind ?_ (fun _ => ?_))
   | exact ih0 _ _ _ _
   | exact LeO.none _
   | refine LeO.ite ?_ ?_
   | refine LeO.bind ?_ (fun _ => ?_)
theorem stack_chosen.mono (p : Int → Option Bool) : ∀ a0 k,LeO (stack_chosen.f p k a0) (stack_chosen.f p (k + 1) a0):=by
 intro a0 k
 have ih0:=stack_chosen.mono_l p k
 unfold stack_chosen.f
 repeat' first
  | (with_reducible exact ih0 _ _ _ _)
  | (with_reducible exact LeO.refl _)
  | (with_reducible exact LeO.none _)
  | (with_reducible refine LeO.ite ?_ ?_)
  | (with_reducible refine LeO.bind ?_ (fun _ => ?_))
  | exact ih0 _ _ _ _
  | exact LeO.none _
  | refine LeO.ite ?_ ?_
  | refine LeO.bind ?_ (fun _ => ?_)
set_option maxHeartbeats 8000000 in
set_option maxRecDepth 100000 in
theorem stack_chosen.calls (p : Int → Option Bool) (g : Nat) (lb : Array Value) (eg : ∀ args w,(callFunc g args).run Try.prog w = .ok (.enter g args) w) (k : Nat) (A0 : Option Addr) (c0 : Nat) (l0 : List (S25)) (r : List (S25)) (w : World) (hp : ∀ (W : World) (i : Int) (b : Bool),Below w.heap.size w W → 0 ≤ i → i < (l0.length : Int) → p i = some b → Calls Try.prog g (#[.int .i64 i] ++ lb) W fun e w' => e = .returned (.bool b) ∧ Drawn0 W w') (hr0 : Kd.C k25 w A0 l0.length l0) (hc0 : l0.length ≤ c0) (h : stack_chosen.f p k l0 = some r) :
 Calls Try.prog 38 #[.slice A0 l0.length c0,.func (.func g) #[] lb] w fun e w' => ∃ v0_ : Value,e = .returned (v0_) ∧ Kd.S k25 25 w' w.heap.size (fun _ => True) v0_ r ∧ Below w.heap.size w w':=by
 have hu25:=Try.underlying25
 have HPF:=Aside0.mk hp
 clear hp
 have HR0:=Aside0.mk hr0
 have HC0:=Aside0.mk hc0
 clear hr0 hc0
 have HB:=Aside0.mk (Below.refl w.heap.size w)
 have H : (stack_chosen.l0 p k ([] : List (S25)) l0 (l0.length : Int) 0) = some r:=h
 clear h
 have H':=Aside0.mk H
 clear H
 go_enter Try.func38,Try.ntmps38
 go_wp2
 go_loopg [5,10] k (fun kq v5 v10 w' => ∃ (x5_1 : List (S25)) (x10_1 : Int),v10 = .int .i64 x10_1 ∧ Aside0 (stack_chosen.l0 p kq x5_1 l0 (l0.length : Int) x10_1 = some r) ∧ Aside0 (kq ≤ k) ∧ Aside0 (Kd.S k25 25 w' w.heap.size (fun _ => True) v5 x5_1) ∧ Aside0 (Below w.heap.size w w'))
 case atStart => exact ⟨(([] : List (S25))),(0),(by first|rfl|(simp;done)|(simp [Go.Proofs.Ytmgiolijjheodaa.Z.bne_nil,Go.Proofs.Ytmgiolijjheodaa.Z.beq_nil];done)|(simp [*];done)),H',⟨Nat.le_refl _⟩,⟨by first|exact Kd.S_nil _ _ _ _ _|exact Kd.N_nil _ _ _ _ _|exact Kd.V_nil _ _ _ _ _|exact Kd.Q_nil _ _ _ _ _|exact Kd.R_nil _ _ _ _ _⟩,⟨by repeat (first|(with_reducible first|exact HB.out|apply below_alloc|apply pw_below_drewN|apply below_drew1)|exact HB.out)⟩⟩
 case round =>
  clear H'
  try clear p2
  obtain ⟨x5_1,x10_1,rfl,HA,HK1,HO_5,HB⟩:=hrel
  cases gk with
  | zero => exact absurd HA.out (by simp [stack_chosen.l0])
  | succ k1 =>
   have H:=HA.out
   clear HA
   simp only [stack_chosen.l0] at H
   by_cases c3 : x10_1 < (l0.length : Int)
   ·rw [if_pos c3] at H
    have c3b0 : decide (x10_1 < (l0.length : Int)) = true:=decide_eq_true c3
    clear c3
    by_cases c4 : 0 ≤ x10_1
    ·rw [if_pos c4] at H
     have c4b0 : decide (0 ≤ x10_1) = true:=decide_eq_true c4
     clear c4
     by_cases c5 : x10_1 < (l0.length : Int)
     ·rw [if_pos c5] at H
      have c5b0 : decide (x10_1 < (l0.length : Int)) = true:=decide_eq_true c5
      clear c5
      replace H:=Option.bind_eq_some_iff.mp H
      obtain ⟨t108,A60,H⟩:=H
      replace H : (if t108 = true then ((stack_own.f ((rd_T25 l0 x10_1).f0) ((rd_T25 l0 x10_1).f1) ((rd_T25 l0 x10_1).f2) ((rd_T25 l0 x10_1).f3) ((rd_T25 l0 x10_1).f4)).bind fun bt109 => (if x5_1.length < 1954687338268 then (stack_chosen.l0 p k1 (x5_1 ++ [(⟨bt109.1,bt109.2.1,bt109.2.2.1,bt109.2.2.2.1,bt109.2.2.2.2⟩ : S25)]) l0 (l0.length : Int) (wrap64 (x10_1 + 1))) else (none))) else (stack_chosen.l0 p k1 x5_1 l0 (l0.length : Int) (wrap64 (x10_1 + 1)))) = some r:=H
      have A6:=Aside0.mk A60
      clear A60
      by_cases c7 : t108 = true
      ·subst c7
       have H1 : ((stack_own.f ((rd_T25 l0 x10_1).f0) ((rd_T25 l0 x10_1).f1) ((rd_T25 l0 x10_1).f2) ((rd_T25 l0 x10_1).f3) ((rd_T25 l0 x10_1).f4)).bind fun bt109 => (if x5_1.length < 1954687338268 then (stack_chosen.l0 p k1 (x5_1 ++ [(⟨bt109.1,bt109.2.1,bt109.2.2.1,bt109.2.2.2.1,bt109.2.2.2.2⟩ : S25)]) l0 (l0.length : Int) (wrap64 (x10_1 + 1))) else (none))) = some r:=by rw [if_pos rfl] at H;exact H
       clear H
       have H:=H1
       clear H1
       replace H:=Option.bind_eq_some_iff.mp H
       obtain ⟨⟨t109,t110,t111,t112,t113⟩,A80,H⟩:=H
       replace H : (if x5_1.length < 1954687338268 then (stack_chosen.l0 p k1 (x5_1 ++ [(⟨t109,t110,t111,t112,t113⟩ : S25)]) l0 (l0.length : Int) (wrap64 (x10_1 + 1))) else (none)) = some r:=H
       have A8:=Aside0.mk A80
       clear A80
       by_cases c9 : x5_1.length < 1954687338268
       ·rw [if_pos c9] at H
        have LMc9:=Aside0.mk c9
        clear c9
        obtain ⟨y116,hy116⟩ : ∃ y_ : List (S25),y_ = (x5_1 ++ [(⟨t109,t110,t111,t112,t113⟩ : S25)]):=⟨_,rfl⟩
        replace H : (stack_chosen.l0 p k1 y116 l0 (l0.length : Int) (wrap64 (x10_1 + 1))) = some r:=by first|(rw [hy116];with_reducible exact H)|(have H2_:=(Option.bind_some _ _).symm.trans H;rw [hy116];with_reducible exact H2_)|(have H2_:=(Option.bind_some _ _).symm.trans H;with_reducible exact H2_)|with_reducible exact H|(rw [hy116];exact H)|exact H
        have Ny116:=Aside0.mk hy116
        clear hy116
        have H':=Aside0.mk H
        clear H
        have p106 : 0 ≤ (x10_1 : Int):=of_decide_eq_true (by first|(with_reducible assumption)|assumption)
        have q106 : x10_1 < (l0.length : Int):=of_decide_eq_true (by first|(with_reducible assumption)|assumption)
        obtain ⟨ad106,A106_4,c106_4,e106,hx106_0,hx106_1,hx106_2,hx106_3,hx106_4,hl106_4,hi106_4⟩:=at_T25 HR0.out x10_1 p106 q106
        cases e106
        replace hx106_0:=(HB.out.cell (World.block_lt_of_cell? w _ hx106_0)).trans hx106_0
        replace hx106_1:=(HB.out.cell (World.block_lt_of_cell? w _ hx106_1)).trans hx106_1
        replace hx106_2:=(HB.out.cell (World.block_lt_of_cell? w _ hx106_2)).trans hx106_2
        replace hx106_3:=(HB.out.cell (World.block_lt_of_cell? w _ hx106_3)).trans hx106_3
        replace hx106_4:=(HB.out.cell (World.block_lt_of_cell? w _ hx106_4)).trans hx106_4
        have HR106_4:=Aside0.mk hi106_4
        have HC106_4:=Aside0.mk hl106_4
        clear hi106_4 hl106_4
        replace p106:=eq_true p106
        replace q106:=eq_true q106
        go_wp2_with (first|((with_reducible refine gate_dst (N:=7) rfl ?_);refine box_event ?hg (N:=7) ?hd (cs:=#[.string (⟨#[]⟩ : ByteArray),.int .i64 0,.bool false,.string (⟨#[]⟩ : ByteArray),.slice none 0 0]) (t:=25) ?hr ?_;(case hd => rfl);(case hg => rfl);(case hr => first|(go_simp;done)|(go_simp;rfl));intro gb107 hg w10 hbox hb;have n0_:=Aside0.mk (Kd.S_below (Kd.S_elderB (by (with_reducible repeat (first|apply Kd.S_alloc|apply Kd.S_drewN|apply Kd.S_drew));exact HO_5.out) gb107 (Nat.le_of_eq hg.symm)) hb);have n1_:=Aside0.mk (below_step (by repeat (first|(with_reducible first|exact HB.out|apply below_alloc|apply pw_below_drewN|apply below_drew1)|exact HB.out)) hb);have n2_:=Aside0.mk (hbox);have n3_:=Aside0.mk ((by rw [hg];exact (below_size (by repeat (first|(with_reducible first|exact HB.out|apply below_alloc|apply pw_below_drewN|apply below_drew1)|exact HB.out))) : w.heap.size ≤ gb107));have n4_:=Aside0.mk ((by rw [hg];exact (below_size (by repeat (first|(with_reducible first|exact HB.out|apply below_alloc|apply pw_below_drewN|apply below_drew1)|exact HB.out))) : w.heap.size ≤ gb107));clear HO_5;clear HB;have HO_5:=n0_;have HB:=n1_;have BK107:=n2_;have GW107:=n3_;have GE107:=n4_;clear n0_ n1_ n2_ n3_ n4_;clear hb hbox hg;have hcz11_0 : w10.cell? ⟨gb107,0,none⟩ = some (.string (⟨#[]⟩ : ByteArray)):=(blk_cell BK107.out 0).trans rfl;have hcz11_1 : w10.cell? ⟨gb107,1,none⟩ = some (.int .i64 0):=(blk_cell BK107.out 1).trans rfl;have hcz11_2 : w10.cell? ⟨gb107,2,none⟩ = some (.bool false):=(blk_cell BK107.out 2).trans rfl;have hcz11_3 : w10.cell? ⟨gb107,3,none⟩ = some (.string (⟨#[]⟩ : ByteArray)):=(blk_cell BK107.out 3).trans rfl;have hcz11_4 : w10.cell? ⟨gb107,4,none⟩ = some (.slice none 0 0):=(blk_cell BK107.out 4).trans rfl;have hfz11_0:=blk_frozen BK107.out 0;have hfz11_1:=blk_frozen BK107.out 1;have hfz11_2:=blk_frozen BK107.out 2;have hfz11_3:=blk_frozen BK107.out 3;have hfz11_4:=blk_frozen BK107.out 4)|(go_at_fn g;(with_reducible refine (HPF.out _ x10_1 true ?sideB ?side0 ?side1 A6.out).mono ?_);(case sideB => exact (by repeat (first|(with_reducible first|exact HB.out|apply below_alloc|apply pw_below_drewN|apply below_drew1|refine below_set ?_ GE107.out)|exact HB.out)));(case side0 => exact of_decide_eq_true (by first|(with_reducible assumption)|assumption));(case side1 => exact of_decide_eq_true (by first|(with_reducible assumption)|assumption));rintro e w' ⟨rfl,⟨nd,rfl⟩⟩)|((with_reducible refine gate_callee (f:=40) rfl ?_);refine goesL_ (some 20) rfl rfl Try.func40 (by kernel_rfl) rfl #[.agg #[.string ((rd_T25 l0 x10_1).f0),.int .i64 ((rd_T25 l0 x10_1).f1),.bool ((rd_T25 l0 x10_1).f2),.string ((rd_T25 l0 x10_1).f3),.slice A106_4 ((rd_T25 l0 x10_1).f4).length c106_4]] rfl (by (try simp only [List.map_toArray,List.map_cons,List.map_nil]);first|done|rfl|(simp only [List.length_drop,List.length_take];rfl)) ?_;(with_reducible refine (stack_own.calls ((rd_T25 l0 x10_1).f0) ((rd_T25 l0 x10_1).f1) ((rd_T25 l0 x10_1).f2) ((rd_T25 l0 x10_1).f3) _ _ ((rd_T25 l0 x10_1).f4) t109 t110 t111 t112 t113 _ ?side1 ?side2 A8.out).mono ?_);(case side1 => exact Kd.C_below HR106_4.out (by repeat (first|(with_reducible first|exact HB.out|apply below_alloc|apply pw_below_drewN|apply below_drew1|refine below_set ?_ GE107.out)|exact HB.out)));(case side2 => exact HC106_4.out);rintro e w12 ⟨v114,rfl,ho0,hb⟩;refine ⟨_,rfl,?_⟩;have n0_:=Aside0.mk (Kd.S_elder' (by (with_reducible repeat (first|apply Kd.S_alloc|apply Kd.S_drewN|apply Kd.S_drew));exact (Kd.S_mono (Kd.S_far (p:=⟨gb107,4,none⟩) (Kd.S_far (p:=⟨gb107,3,none⟩) (Kd.S_far (p:=⟨gb107,2,none⟩) (Kd.S_far (p:=⟨gb107,1,none⟩) (Kd.S_far (p:=⟨gb107,0,none⟩) (Kd.S_mono HO_5.out (fun k_ hk => (⟨hk,hk.2⟩ : _ ∧ k_ ≠ gb107))) (fun _ hk => hk.2) (.string ((rd_T25 l0 x10_1).f0))) (fun _ hk => hk.2) (.int .i64 ((rd_T25 l0 x10_1).f1))) (fun _ hk => hk.2) (.bool ((rd_T25 l0 x10_1).f2))) (fun _ hk => hk.2) (.string ((rd_T25 l0 x10_1).f3))) (fun _ hk => hk.2) (.slice A106_4 ((rd_T25 l0 x10_1).f4).length c106_4)) (fun _ h_ => h_.1))) (Kd.R_base ho0) hb);have n1_:=Aside0.mk (Kd.R_lower ho0 (below_size (by repeat (first|(with_reducible first|exact HB.out|apply below_alloc|apply pw_below_drewN|apply below_drew1|refine below_set ?_ GE107.out)|exact HB.out))));have n2_:=Aside0.mk (blk_below (g:=gb107) (o:=.cells #[.string ((rd_T25 l0 x10_1).f0),.int .i64 ((rd_T25 l0 x10_1).f1),.bool ((rd_T25 l0 x10_1).f2),.string ((rd_T25 l0 x10_1).f3),.slice A106_4 ((rd_T25 l0 x10_1).f4).length c106_4] 25 (0,0)) (by (with_reducible repeat (first|refine blk_drewN ?_ _|refine blk_drew ?_|refine blk_alloc ?_ _));refine blk_put (cs:=#[.string ((rd_T25 l0 x10_1).f0),.int .i64 ((rd_T25 l0 x10_1).f1),.bool ((rd_T25 l0 x10_1).f2),.string ((rd_T25 l0 x10_1).f3),.slice none 0 0]) ?_ 4 _ rfl;(with_reducible repeat (first|refine blk_drewN ?_ _|refine blk_drew ?_|refine blk_alloc ?_ _));refine blk_put (cs:=#[.string ((rd_T25 l0 x10_1).f0),.int .i64 ((rd_T25 l0 x10_1).f1),.bool ((rd_T25 l0 x10_1).f2),.string (⟨#[]⟩ : ByteArray),.slice none 0 0]) ?_ 3 _ rfl;(with_reducible repeat (first|refine blk_drewN ?_ _|refine blk_drew ?_|refine blk_alloc ?_ _));refine blk_put (cs:=#[.string ((rd_T25 l0 x10_1).f0),.int .i64 ((rd_T25 l0 x10_1).f1),.bool false,.string (⟨#[]⟩ : ByteArray),.slice none 0 0]) ?_ 2 _ rfl;(with_reducible repeat (first|refine blk_drewN ?_ _|refine blk_drew ?_|refine blk_alloc ?_ _));refine blk_put (cs:=#[.string ((rd_T25 l0 x10_1).f0),.int .i64 0,.bool false,.string (⟨#[]⟩ : ByteArray),.slice none 0 0]) ?_ 1 _ rfl;(with_reducible repeat (first|refine blk_drewN ?_ _|refine blk_drew ?_|refine blk_alloc ?_ _));refine blk_put (cs:=#[.string (⟨#[]⟩ : ByteArray),.int .i64 0,.bool false,.string (⟨#[]⟩ : ByteArray),.slice none 0 0]) ?_ 0 _ rfl;(with_reducible repeat (first|refine blk_drewN ?_ _|refine blk_drew ?_|refine blk_alloc ?_ _));exact BK107.out) hb);have n3_:=Aside0.mk (below_step (by repeat (first|(with_reducible first|exact HB.out|apply below_alloc|apply pw_below_drewN|apply below_drew1|refine below_set ?_ GE107.out)|exact HB.out)) hb);clear HO_5;clear BK107;clear HB;have HO_5:=n0_;have HO115:=n1_;have BK107:=n2_;have HB:=n3_;clear n0_ n1_ n2_ n3_;(try clear hb);(try clear hb2);(try clear hk);(try clear hi);(try clear ho0);obtain ⟨Ao14,co14,eo14⟩:=Kd.R_slice HO115.out;subst eo14)|((with_reducible refine gate_builtin (b:=.append) (xs:=#[.tmp 18,.tmp 21]) rfl ?_);at_builtin;refine Kd.S_append k25 (w0:=w) w.heap.size rfl (.tmp 18) (.tmp 21) 22 25 (.agg #[(.string ⟨#[]⟩),(.int .i64 0),(.bool false),(.string ⟨#[]⟩),(.slice none 0 0)]) 72 rfl Try.underlying22 info25 rfl (by decide) (by omega) u5 x5_1 (⟨t109,t110,t111,t112,t113⟩ : S25) [.string t109,.int .i64 t110,.bool t111,.string t112,.slice Ao14 t113.length co14] (fun k_ => k_ ≠ gb107) (fun k_ => some k_ = (.slice Ao14 t113.length co14 : Value).ownBlock) rfl rfl ?aP (fun k_ hk_ => ((Kd.R_mono (ok':=fun k_ => ((fun k_ => k_ ≠ gb107)) k_ ∧ some k_ ≠ (u5 : Value).ownBlock) (Kd.R_types (Kd.R_apart' (HO115.out) (Kd.S_typed HO_5.out) (by decide)) BK107.out (by decide)) (fun k_ hk => ⟨hk.2,hk.1.2⟩))).1 k_ hk_.symm) ?aF ?aO ?aB ?aS ?aL ?_;(case aP => exact k25_mkM _ _ _ (⟨t109,t110,t111,t112,t113⟩ : S25) (Kd.R_mono (Kd.R_tight rfl (Kd.R_mono (ok':=fun k_ => ((fun k_ => k_ ≠ gb107)) k_ ∧ some k_ ≠ (u5 : Value).ownBlock) (Kd.R_types (Kd.R_apart' (HO115.out) (Kd.S_typed HO_5.out) (by decide)) BK107.out (by decide)) (fun k_ hk => ⟨hk.2,hk.1.2⟩))) (fun _ h_ => h_)));(case aB => exact (by repeat (first|(with_reducible first|exact HB.out|apply below_alloc|apply pw_below_drewN|apply below_drew1|refine below_set ?_ GE107.out)|exact HB.out)));(case aF => exact (fun k_ hk => Kd.freshB (g:=gb107) (o:=.cells #[.string ((rd_T25 l0 x10_1).f0),.int .i64 ((rd_T25 l0 x10_1).f1),.bool ((rd_T25 l0 x10_1).f2),.string ((rd_T25 l0 x10_1).f3),.slice A106_4 ((rd_T25 l0 x10_1).f4).length c106_4] 25 (0,0)) (by (with_reducible repeat (first|refine blk_drewN ?_ _|refine blk_drew ?_|refine blk_alloc ?_ _));exact BK107.out) k_ hk));(case aO => exact (by (with_reducible repeat (first|apply Kd.S_alloc|apply Kd.S_drewN|apply Kd.S_drew));exact Kd.S_mono HO_5.out (fun k_ hk => ⟨hk.1.2,fun e_ => hk.2 e_⟩)));(case aS => exact (below_size (by repeat (first|(with_reducible first|exact HB.out|apply below_alloc|apply pw_below_drewN|apply below_drew1|refine below_set ?_ GE107.out)|exact HB.out))));(case aL => have:=LMc9.out;omega);intro v117 w13 ho hb hg hat;rw [← Ny116.out] at ho;have n0_:=Aside0.mk (blk_grown (g:=gb107) (o:=.cells #[.string ((rd_T25 l0 x10_1).f0),.int .i64 ((rd_T25 l0 x10_1).f1),.bool ((rd_T25 l0 x10_1).f2),.string ((rd_T25 l0 x10_1).f3),.slice A106_4 ((rd_T25 l0 x10_1).f4).length c106_4] 25 (0,0)) (by (with_reducible repeat (first|refine blk_drewN ?_ _|refine blk_drew ?_|refine blk_alloc ?_ _));exact BK107.out) hg (Kd.S_away HO_5.out (fun _ hk => hk.1.2)));have n1_:=Aside0.mk (hb);have n2_:=Aside0.mk (ho);clear BK107;clear HB;clear HO_5;clear HO115;have BK107:=n0_;have HB:=n1_;have HO118:=n2_;clear n0_ n1_ n2_;clear ho hb hg hat))
        go_roundg k1
        case measure => have:=HK1.out;omega
        case rel => exact ⟨(y116),(wrap64 (x10_1 + 1)),(by first|rfl|(simp;done)|(simp [Go.Proofs.Ytmgiolijjheodaa.Z.bne_nil,Go.Proofs.Ytmgiolijjheodaa.Z.beq_nil];done)|(simp [*];done)),H',⟨by have:=HK1.out;omega⟩,⟨by (with_reducible repeat (first|apply Kd.S_alloc|apply Kd.S_drewN|apply Kd.S_drew));exact Kd.S_mono HO118.out (fun _ hk => trivial)⟩,⟨by repeat (first|(with_reducible first|exact HB.out|apply below_alloc|apply pw_below_drewN|apply below_drew1|refine below_set ?_ GE107.out)|exact HB.out)⟩⟩
       ·rw [if_neg c9] at H
        exact absurd H (by simp)
      ·replace c7:=Bool.eq_false_iff.mpr c7
       subst c7
       have H1 : (stack_chosen.l0 p k1 x5_1 l0 (l0.length : Int) (wrap64 (x10_1 + 1))) = some r:=by rw [if_neg (show ¬ (false = true) by decide)] at H;exact H
       clear H
       have H:=H1
       clear H1
       have H':=Aside0.mk H
       clear H
       have p106 : 0 ≤ (x10_1 : Int):=of_decide_eq_true (by first|(with_reducible assumption)|assumption)
       have q106 : x10_1 < (l0.length : Int):=of_decide_eq_true (by first|(with_reducible assumption)|assumption)
       obtain ⟨ad106,A106_4,c106_4,e106,hx106_0,hx106_1,hx106_2,hx106_3,hx106_4,hl106_4,hi106_4⟩:=at_T25 HR0.out x10_1 p106 q106
       cases e106
       replace hx106_0:=(HB.out.cell (World.block_lt_of_cell? w _ hx106_0)).trans hx106_0
       replace hx106_1:=(HB.out.cell (World.block_lt_of_cell? w _ hx106_1)).trans hx106_1
       replace hx106_2:=(HB.out.cell (World.block_lt_of_cell? w _ hx106_2)).trans hx106_2
       replace hx106_3:=(HB.out.cell (World.block_lt_of_cell? w _ hx106_3)).trans hx106_3
       replace hx106_4:=(HB.out.cell (World.block_lt_of_cell? w _ hx106_4)).trans hx106_4
       have HR106_4:=Aside0.mk hi106_4
       have HC106_4:=Aside0.mk hl106_4
       clear hi106_4 hl106_4
       replace p106:=eq_true p106
       replace q106:=eq_true q106
       go_wp2_with (first|((with_reducible refine gate_dst (N:=7) rfl ?_);refine box_event ?hg (N:=7) ?hd (cs:=#[.string (⟨#[]⟩ : ByteArray),.int .i64 0,.bool false,.string (⟨#[]⟩ : ByteArray),.slice none 0 0]) (t:=25) ?hr ?_;(case hd => rfl);(case hg => rfl);(case hr => first|(go_simp;done)|(go_simp;rfl));intro gb107 hg w15 hbox hb;have n0_:=Aside0.mk (Kd.S_below (Kd.S_elderB (by (with_reducible repeat (first|apply Kd.S_alloc|apply Kd.S_drewN|apply Kd.S_drew));exact HO_5.out) gb107 (Nat.le_of_eq hg.symm)) hb);have n1_:=Aside0.mk (below_step (by repeat (first|(with_reducible first|exact HB.out|apply below_alloc|apply pw_below_drewN|apply below_drew1)|exact HB.out)) hb);have n2_:=Aside0.mk (hbox);have n3_:=Aside0.mk ((by rw [hg];exact (below_size (by repeat (first|(with_reducible first|exact HB.out|apply below_alloc|apply pw_below_drewN|apply below_drew1)|exact HB.out))) : w.heap.size ≤ gb107));have n4_:=Aside0.mk ((by rw [hg];exact (below_size (by repeat (first|(with_reducible first|exact HB.out|apply below_alloc|apply pw_below_drewN|apply below_drew1)|exact HB.out))) : w.heap.size ≤ gb107));clear HO_5;clear HB;have HO_5:=n0_;have HB:=n1_;have BK107:=n2_;have GW107:=n3_;have GE107:=n4_;clear n0_ n1_ n2_ n3_ n4_;clear hb hbox hg;have hcz16_0 : w15.cell? ⟨gb107,0,none⟩ = some (.string (⟨#[]⟩ : ByteArray)):=(blk_cell BK107.out 0).trans rfl;have hcz16_1 : w15.cell? ⟨gb107,1,none⟩ = some (.int .i64 0):=(blk_cell BK107.out 1).trans rfl;have hcz16_2 : w15.cell? ⟨gb107,2,none⟩ = some (.bool false):=(blk_cell BK107.out 2).trans rfl;have hcz16_3 : w15.cell? ⟨gb107,3,none⟩ = some (.string (⟨#[]⟩ : ByteArray)):=(blk_cell BK107.out 3).trans rfl;have hcz16_4 : w15.cell? ⟨gb107,4,none⟩ = some (.slice none 0 0):=(blk_cell BK107.out 4).trans rfl;have hfz16_0:=blk_frozen BK107.out 0;have hfz16_1:=blk_frozen BK107.out 1;have hfz16_2:=blk_frozen BK107.out 2;have hfz16_3:=blk_frozen BK107.out 3;have hfz16_4:=blk_frozen BK107.out 4)|(go_at_fn g;(with_reducible refine (HPF.out _ x10_1 false ?sideB ?side0 ?side1 A6.out).mono ?_);(case sideB => exact (by repeat (first|(with_reducible first|exact HB.out|apply below_alloc|apply pw_below_drewN|apply below_drew1|refine below_set ?_ GE107.out)|exact HB.out)));(case side0 => exact of_decide_eq_true (by first|(with_reducible assumption)|assumption));(case side1 => exact of_decide_eq_true (by first|(with_reducible assumption)|assumption));rintro e w' ⟨rfl,⟨nd,rfl⟩⟩))
       go_roundg k1
       case measure => have:=HK1.out;omega
       case rel => exact ⟨(x5_1),(wrap64 (x10_1 + 1)),(by first|rfl|(simp;done)|(simp [Go.Proofs.Ytmgiolijjheodaa.Z.bne_nil,Go.Proofs.Ytmgiolijjheodaa.Z.beq_nil];done)|(simp [*];done)),H',⟨by have:=HK1.out;omega⟩,⟨by (with_reducible repeat (first|apply Kd.S_alloc|apply Kd.S_drewN|apply Kd.S_drew));exact Kd.S_mono (Kd.S_far (p:=⟨gb107,4,none⟩) (Kd.S_far (p:=⟨gb107,3,none⟩) (Kd.S_far (p:=⟨gb107,2,none⟩) (Kd.S_far (p:=⟨gb107,1,none⟩) (Kd.S_far (p:=⟨gb107,0,none⟩) (Kd.S_mono HO_5.out (fun k_ hk => (⟨hk,hk.2⟩ : _ ∧ k_ ≠ gb107))) (fun _ hk => hk.2) (.string ((rd_T25 l0 x10_1).f0))) (fun _ hk => hk.2) (.int .i64 ((rd_T25 l0 x10_1).f1))) (fun _ hk => hk.2) (.bool ((rd_T25 l0 x10_1).f2))) (fun _ hk => hk.2) (.string ((rd_T25 l0 x10_1).f3))) (fun _ hk => hk.2) (.slice A106_4 ((rd_T25 l0 x10_1).f4).length c106_4)) (fun _ hk => trivial)⟩,⟨by repeat (first|(with_reducible first|exact HB.out|apply below_alloc|apply pw_below_drewN|apply below_drew1|refine below_set ?_ GE107.out)|exact HB.out)⟩⟩
     ·rw [if_neg c5] at H
      exact absurd H (by simp)
    ·rw [if_neg c4] at H
     exact absurd H (by simp)
   ·rw [if_neg c3] at H
    have c3b0 : decide (x10_1 < (l0.length : Int)) = false:=decide_eq_false c3
    clear c3
    obtain rfl:=Option.some.inj H
    go_wp2
    go_ret
    exact ⟨_,by first|rfl|(simp [errW_none,errW_some] <;> rfl)|(simp [*,errW_none,errW_some] <;> rfl),by (with_reducible repeat (first|apply Kd.S_alloc|apply Kd.S_drewN|apply Kd.S_drew));exact HO_5.out,by repeat (first|(with_reducible first|exact HB.out|apply below_alloc|apply pw_below_drewN|apply below_drew1)|exact HB.out)⟩

end Go.Proofs.Ytmgiolijjheodaa.X
