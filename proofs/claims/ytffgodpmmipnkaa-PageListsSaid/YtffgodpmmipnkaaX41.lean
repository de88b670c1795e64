-- By a program of this session (wip/xprint.py over the kit's print).
import Derived.Test.YtffgodpmmipnkaaX0
import Derived.Test.YtffgodpmmipnkaaXA
import Derived.Test.YtffgodpmmipnkaaX37
namespace Go.Proofs.Ytffgodpmmipnkaa.X
open Go.RowKit Go.Proofs.YtffgodpmmipnkaaW.PrintWords Go.Proofs.YtffgodpmmipnkaaW.PrintLast Go.Proofs.YtffgodpmmipnkaaW.PrintMore
attribute [local go_sem] max2_int min2_int max_two min_two max_three min_three max_four min_four Go.Proofs.Ytffgodpmmipnkaa.Z.leq_string Go.Proofs.Ytffgodpmmipnkaa.Z.gtr_string Go.Proofs.Ytffgodpmmipnkaa.Z.geq_string   -- for this text's walks alone
set_option linter.unusedVariables false
set_option linter.unusedSimpArgs false

/-! ### page_Split: function 25 -/
def page_Split.l0 : Nat → List (S37) → Int → Int → Int → Int → Int → Option ((List (S37)) × (List (S37)))
 | 0,_,_,_,_,_,_ => none
 | k + 1,x0,x4,x5,x6,x7,x8 => if x8 < (x0.length : Int) then (if 0 ≤ (wrap64 (x8 - 1)) then (if (wrap64 (x8 - 1)) < (x0.length : Int) then ((page_size.f ((rd_T37 x0 (wrap64 (x8 - 1))).f0) ((rd_T37 x0 (wrap64 (x8 - 1))).f1)).bind fun t240 => (if x5 = 0 then (page_Split.l0 k x0 x4 x8 (mx (wrap64 (x7 + t240)) (wrap64 (x4 - (wrap64 (x7 + t240))))) (wrap64 (x7 + t240)) (wrap64 (x8 + 1))) else (if (mx (wrap64 (x7 + t240)) (wrap64 (x4 - (wrap64 (x7 + t240))))) < x6 then (page_Split.l0 k x0 x4 x8 (mx (wrap64 (x7 + t240)) (wrap64 (x4 - (wrap64 (x7 + t240))))) (wrap64 (x7 + t240)) (wrap64 (x8 + 1))) else (page_Split.l0 k x0 x4 x5 x6 (wrap64 (x7 + t240)) (wrap64 (x8 + 1)))))) else (none)) else (none)) else (if 0 ≤ x5 then (if x5 ≤ (x0.length : Int) then ((api_Entry_42.f (x0.take (x5 : Int).toNat)).bind fun t245 => ((api_Entry_42.f (x0.drop (x5 : Int).toNat)).bind fun t252 => (some (t245,t252)))) else (none)) else (none))
def page_Split.f (k : Nat) (l0 : List (S37)) : Option ((List (S37)) × (List (S37))):=if (l0.length : Int) < 2 then ((api_Entry_42.f l0).bind fun t235 => (some (t235,([] : List (S37))))) else ((page_Size.f k l0).bind fun t238 => (page_Split.l0 k l0 t238 0 0 0 1))
theorem page_Split.mono_l : ∀ k,(∀ y0 y1 y2 y3 y4 y5,LeO (page_Split.l0 k y0 y1 y2 y3 y4 y5) (page_Split.l0 (k + 1) y0 y1 y2 y3 y4 y5))
 | 0 => fun _ _ _ _ _ _ r h => by simp [page_Split.l0] at h
 | k + 1 => by
  have ih0:=page_Split.mono_l k
  ·intro y0 y1 y2 y3 y4 y5
   unfold page_Split.l0
   repeat' first
   | (with_reducible exact ih0 _ _ _ _ _ _)
   | (with_reducible exact page_Size.mono _ _)
   | (with_reducible exact LeO.refl _)
   | (with_reducible exact LeO.none _)
   | (with_reducible refine LeO.ite ?_ ?_)
   | (with_reducible refine LeO.bind ?_ (fun _ => ?_))
   | exact ih0 _ _ _ _ _ _
   | exact page_Size.mono _ _
   | exact LeO.none _
   | refine LeO.ite ?_ ?_
   | refine LeO.bind ?_ (fun _ => ?_)
theorem page_Split.mono : ∀ a0 k,LeO (page_Split.f k a0) (page_Split.f (k + 1) a0):=by
 intro a0 k
 have ih0:=page_Split.mono_l k
 unfold page_Split.f
 repeat' first
  | (with_reducible exact ih0 _ _ _ _ _ _)
  | (with_reducible exact page_Size.mono _ _)
  | (with_reducible exact LeO.refl _)
  | (with_reducible exact LeO.none _)
  | (with_reducible refine LeO.ite ?_ ?_)
  | (with_reducible refine LeO.bind ?_ (fun _ => ?_))
  | exact ih0 _ _ _ _ _ _
  | exact page_Size.mono _ _
  | exact LeO.none _
  | refine LeO.ite ?_ ?_
  | refine LeO.bind ?_ (fun _ => ?_)
def page_Split.T12 : Bool × List (List Nat × List Nat):=(true,[([],[]),([],[]),([0,1],[0,1]),([2],[2]),([],[]),([],[]),([4,5],[4,5]),([6,3],[6]),([3,7,0,1,2,3],[3]),([7,8,0,1,2,3,4,5,6,7,8],[7])])
def page_Split.B12 : List Nat:=[0,0,3,7,0,0,48,127,255,511]
theorem page_Split.tab12 : rtab .any (opsOf Try.f25 12) = page_Split.T12:=by kernel_rfl
theorem page_Split.bits12 : waitsOk page_Split.T12.2 page_Split.B12 = true:=by kernel_rfl
set_option maxHeartbeats 8000000 in
set_option maxRecDepth 100000 in
theorem page_Split.calls (k : Nat) (A0 : Option Addr) (c0 : Nat) (l0 : List (S37)) (r1 : List (S37)) (r2 : List (S37)) (w : World) (hr0 : Kd.C k37 w A0 l0.length l0) (hc0 : l0.length ≤ c0) (h : page_Split.f k l0 = some (r1,r2)) :
 Calls Try.prog 25 #[.slice A0 l0.length c0] w fun e w' => ∃ v0_ v1_ : Value,e = .returned (.tuple #[v0_,v1_]) ∧ Kd.R k37 37 w' w.heap.size (fun k_ => some k_ ≠ (v1_ : Value).ownBlock) v0_ r1 ∧ Kd.R k37 37 w' w.heap.size (fun k_ => some k_ ≠ (v0_ : Value).ownBlock) v1_ r2 ∧ Below w.heap.size w w':=by
 have hu37:=Try.underlying37
 have HR0:=Aside0.mk hr0
 have HC0:=Aside0.mk hc0
 clear hr0 hc0
 have HB:=Aside0.mk (Below.refl w.heap.size w)
 have H : (if (l0.length : Int) < 2 then ((api_Entry_42.f l0).bind fun t235 => (some (t235,([] : List (S37))))) else ((page_Size.f k l0).bind fun t238 => (page_Split.l0 k l0 t238 0 0 0 1))) = some (r1,r2):=h
 clear h
 by_cases c2 : (l0.length : Int) < 2
 ·rw [if_pos c2] at H
  have c2b0 : decide ((l0.length : Int) < 2) = true:=decide_eq_true c2
  have c2b1 : decide (l0.length < 2) = true:=decide_eq_true (by omega)
  clear c2
  replace H:=Option.bind_eq_some_iff.mp H
  obtain ⟨t235,A30,H⟩:=H
  replace H : (some (t235,([] : List (S37)))) = some (r1,r2):=H
  have A3:=Aside0.mk A30
  clear A30
  simp only [Option.some.injEq,Prod.mk.injEq] at H
  obtain ⟨rfl,rfl⟩:=H
  go_enter Try.func25,Try.ntmps25
  go_wp2_with (first|((with_reducible refine gate_callee (f:=42) rfl ?_);refine goesL_ (some 14) rfl rfl Try.func42 (by kernel_rfl) rfl #[.slice A0 l0.length c0] rfl (by (try simp only [List.map_toArray,List.map_cons,List.map_nil]);first|done|rfl|(simp only [List.length_drop,List.length_take];rfl)) ?_;(with_reducible refine (api_Entry_42.calls _ _ l0 t235 _ ?side1 ?side2 A3.out).mono ?_);(case side1 => repeat (first|exact HR0.out|(with_reducible refine Kd.C_alloc ?_ _)|(with_reducible refine Kd.C_drewN ?_ _)|(with_reducible refine Kd.C_drew ?_)));(case side2 => exact HC0.out);rintro e w4 ⟨v236,rfl,ho0,hb⟩;refine ⟨_,rfl,?_⟩;have n0_:=Aside0.mk (Kd.R_lower ho0 (below_size (by repeat (first|(with_reducible first|exact HB.out|apply below_alloc|apply pw_below_drewN|apply below_drew1)|exact HB.out))));have n1_:=Aside0.mk (below_step (by repeat (first|(with_reducible first|exact HB.out|apply below_alloc|apply pw_below_drewN|apply below_drew1)|exact HB.out)) hb);clear HB;have HO237:=n0_;have HB:=n1_;clear n0_ n1_;(try clear hb);(try clear hb2);(try clear hk);(try clear hi);(try clear ho0)))
  go_ret2
  exact ⟨_,_,by first|rfl|(simp [errW_none,errW_some] <;> rfl)|(simp [*,errW_none,errW_some] <;> rfl),by (with_reducible repeat (first|apply Kd.R_alloc|apply Kd.R_drewN|apply Kd.R_drew));exact Kd.R_mono HO237.out (fun _ hk => (by simp [Value.ownBlock])),by first|exact Kd.R_nil _ _ _ _ _|exact Kd.N_nil _ _ _ _ _|exact Kd.V_nil _ _ _ _ _|exact Kd.Q_nil _ _ _ _ _|exact Kd.S_nil _ _ _ _ _,by repeat (first|(with_reducible first|exact HB.out|apply below_alloc|apply pw_below_drewN|apply below_drew1)|exact HB.out)⟩
 ·rw [if_neg c2] at H
  have c2b0 : decide ((l0.length : Int) < 2) = false:=decide_eq_false c2
  have c2b1 : decide (l0.length < 2) = false:=decide_eq_false (by omega)
  clear c2
  replace H:=Option.bind_eq_some_iff.mp H
  obtain ⟨t238,A50,H⟩:=H
  replace H : (page_Split.l0 k l0 t238 0 0 0 1) = some (r1,r2):=H
  have A5:=Aside0.mk A50
  clear A50
  have H':=Aside0.mk H
  clear H
  go_enter Try.func25,Try.ntmps25
  go_wp2_with (first|((with_reducible refine gate_callee (f:=16) rfl ?_);refine goesL_ (some 16) rfl rfl Try.func16 (by kernel_rfl) rfl #[.slice A0 l0.length c0] rfl (by (try simp only [List.map_toArray,List.map_cons,List.map_nil]);first|done|rfl|(simp only [List.length_drop,List.length_take];rfl)) ?_;(with_reducible refine (page_Size.calls k _ _ l0 t238 _ ?side1 ?side2 A5.out).mono ?_);(case side1 => repeat (first|exact HR0.out|(with_reducible refine Kd.C_alloc ?_ _)|(with_reducible refine Kd.C_drewN ?_ _)|(with_reducible refine Kd.C_drew ?_)));(case side2 => exact HC0.out);rintro e w6 ⟨rfl,hb⟩;refine ⟨_,rfl,?_⟩;have n0_:=Aside0.mk (below_step (by repeat (first|(with_reducible first|exact HB.out|apply below_alloc|apply pw_below_drewN|apply below_drew1)|exact HB.out)) hb);clear HB;have HB:=n0_;clear n0_;(try clear hb);(try clear hb2);(try clear hk);(try clear hi)))
  go_loopg [5,6,7,8] k (fun kq v5 v6 v7 v8 w' => ∃ (x5_1 : Int) (x6_1 : Int) (x7_1 : Int) (x8_1 : Int),v5 = .int .i64 x5_1 ∧ v6 = .int .i64 x6_1 ∧ v7 = .int .i64 x7_1 ∧ v8 = .int .i64 x8_1 ∧ Aside0 (page_Split.l0 kq l0 t238 x5_1 x6_1 x7_1 x8_1 = some (r1,r2)) ∧ Aside0 (kq ≤ k) ∧ Aside0 (Below w.heap.size w w'))
  case atStart => exact ⟨(0),(0),(0),(1),(by first|rfl|(simp;done)|(simp [Go.Proofs.Ytffgodpmmipnkaa.Z.bne_nil,Go.Proofs.Ytffgodpmmipnkaa.Z.beq_nil];done)|(simp [*];done)),(by first|rfl|(simp;done)|(simp [Go.Proofs.Ytffgodpmmipnkaa.Z.bne_nil,Go.Proofs.Ytffgodpmmipnkaa.Z.beq_nil];done)|(simp [*];done)),(by first|rfl|(simp;done)|(simp [Go.Proofs.Ytffgodpmmipnkaa.Z.bne_nil,Go.Proofs.Ytffgodpmmipnkaa.Z.beq_nil];done)|(simp [*];done)),(by first|rfl|(simp;done)|(simp [Go.Proofs.Ytffgodpmmipnkaa.Z.bne_nil,Go.Proofs.Ytffgodpmmipnkaa.Z.beq_nil];done)|(simp [*];done)),H',⟨Nat.le_refl _⟩,⟨by repeat (first|(with_reducible first|exact HB.out|apply below_alloc|apply pw_below_drewN|apply below_drew1)|exact HB.out)⟩⟩
  case round =>
   clear H'
   try clear c1
   try clear c2
   try clear c2b0
   try clear c2b1
   try clear p2
   try clear c4
   obtain ⟨x5_1,x6_1,x7_1,x8_1,rfl,rfl,rfl,rfl,HA,HK1,HB⟩:=hrel
   cases gk with
   | zero => exact absurd HA.out (by simp [page_Split.l0])
   | succ k1 =>
    have H:=HA.out
    clear HA
    simp only [page_Split.l0] at H
    by_cases c7 : x8_1 < (l0.length : Int)
    ·rw [if_pos c7] at H
     have c7b0 : decide (x8_1 < (l0.length : Int)) = true:=decide_eq_true c7
     clear c7
     obtain ⟨ji8,hji8⟩ : ∃ j_ : Int,(wrap64 (x8_1 - 1)) = j_:=⟨_,rfl⟩
     replace H : (if 0 ≤ (ji8) then (if (ji8) < (l0.length : Int) then ((page_size.f ((rd_T37 l0 (ji8)).f0) ((rd_T37 l0 (ji8)).f1)).bind fun t240 => (if x5_1 = 0 then (page_Split.l0 k1 l0 t238 x8_1 (mx (wrap64 (x7_1 + t240)) (wrap64 (t238 - (wrap64 (x7_1 + t240))))) (wrap64 (x7_1 + t240)) (wrap64 (x8_1 + 1))) else (if (mx (wrap64 (x7_1 + t240)) (wrap64 (t238 - (wrap64 (x7_1 + t240))))) < x6_1 then (page_Split.l0 k1 l0 t238 x8_1 (mx (wrap64 (x7_1 + t240)) (wrap64 (t238 - (wrap64 (x7_1 + t240))))) (wrap64 (x7_1 + t240)) (wrap64 (x8_1 + 1))) else (page_Split.l0 k1 l0 t238 x5_1 x6_1 (wrap64 (x7_1 + t240)) (wrap64 (x8_1 + 1)))))) else (none)) else (none)) = some (r1,r2):=by first|(rw [hji8] at H;exact H)|(simp only [hji8] at H ⊢;exact H)
     have hji8w : (IntKind.i64.wrap (x8_1 - 1)) = ji8:=(i64_w _).trans hji8
     by_cases c9 : 0 ≤ (ji8)
     ·rw [if_pos c9] at H
      have c9b0 : decide (0 ≤ (ji8)) = true:=decide_eq_true c9
      clear c9
      by_cases c10 : (ji8) < (l0.length : Int)
      ·rw [if_pos c10] at H
       have c10b0 : decide ((ji8) < (l0.length : Int)) = true:=decide_eq_true c10
       clear c10
       replace H:=Option.bind_eq_some_iff.mp H
       obtain ⟨t240,A110,H⟩:=H
       replace H : (if x5_1 = 0 then (page_Split.l0 k1 l0 t238 x8_1 (mx (wrap64 (x7_1 + t240)) (wrap64 (t238 - (wrap64 (x7_1 + t240))))) (wrap64 (x7_1 + t240)) (wrap64 (x8_1 + 1))) else (if (mx (wrap64 (x7_1 + t240)) (wrap64 (t238 - (wrap64 (x7_1 + t240))))) < x6_1 then (page_Split.l0 k1 l0 t238 x8_1 (mx (wrap64 (x7_1 + t240)) (wrap64 (t238 - (wrap64 (x7_1 + t240))))) (wrap64 (x7_1 + t240)) (wrap64 (x8_1 + 1))) else (page_Split.l0 k1 l0 t238 x5_1 x6_1 (wrap64 (x7_1 + t240)) (wrap64 (x8_1 + 1))))) = some (r1,r2):=H
       have A11:=Aside0.mk A110
       clear A110
       obtain ⟨ji12,hji12⟩ : ∃ j_ : Int,(mx (wrap64 (x7_1 + t240)) (wrap64 (t238 - (wrap64 (x7_1 + t240))))) = j_:=⟨_,rfl⟩
       replace H : (if x5_1 = 0 then (page_Split.l0 k1 l0 t238 x8_1 ji12 (wrap64 (x7_1 + t240)) (wrap64 (x8_1 + 1))) else (if (ji12) < x6_1 then (page_Split.l0 k1 l0 t238 x8_1 ji12 (wrap64 (x7_1 + t240)) (wrap64 (x8_1 + 1))) else (page_Split.l0 k1 l0 t238 x5_1 x6_1 (wrap64 (x7_1 + t240)) (wrap64 (x8_1 + 1))))) = some (r1,r2):=by first|(rw [hji12] at H;exact H)|(simp only [hji12] at H ⊢;exact H)
       (try rw [hji12] at A11)
       have hji12_ : (if (wrap64 (x7_1 + t240)) < (wrap64 (t238 - (wrap64 (x7_1 + t240)))) then (wrap64 (t238 - (wrap64 (x7_1 + t240)))) else (wrap64 (x7_1 + t240))) = ji12:=hji12
       by_cases c13 : x5_1 = 0
       ·rw [if_pos c13] at H
        have c13b0 : (x5_1 == 0) = true:=beq_iff_eq.mpr c13
        have c13b1 : (x5_1 != 0) = false:=bne_eq_false_iff_eq.mpr c13
        clear c13
        have H':=Aside0.mk H
        clear H
        have p239 : 0 ≤ ((ji8) : Int):=of_decide_eq_true (by first|(with_reducible assumption)|assumption)
        have q239 : (ji8) < (l0.length : Int):=of_decide_eq_true (by first|(with_reducible assumption)|assumption)
        obtain ⟨ad239,e239,hx239_0,hx239_1⟩:=at_T37 HR0.out (ji8) p239 q239
        cases e239
        replace hx239_0:=(HB.out.cell (World.block_lt_of_cell? w _ hx239_0)).trans hx239_0
        replace hx239_1:=(HB.out.cell (World.block_lt_of_cell? w _ hx239_1)).trans hx239_1
        replace p239:=eq_true p239
        replace q239:=eq_true q239
        go_wp2_with (first|((with_reducible refine gate_callee (f:=38) rfl ?_);refine goesL_ (some 29) rfl rfl Try.func38 (by kernel_rfl) rfl #[.agg #[.string ((rd_T37 l0 (ji8)).f0),.string ((rd_T37 l0 (ji8)).f1)]] rfl (by (try simp only [List.map_toArray,List.map_cons,List.map_nil]);first|done|(simp only [hji8];rfl)|rfl|(simp only [List.length_drop,List.length_take];rfl)) ?_;(with_reducible refine (page_size.calls ((rd_T37 l0 (ji8)).f0) ((rd_T37 l0 (ji8)).f1) t240 _ A11.out).mono ?_);rintro e w14 ⟨rfl,hb⟩;refine ⟨_,rfl,?_⟩;have n0_:=Aside0.mk (below_step (by repeat (first|(with_reducible first|exact HB.out|apply below_alloc|apply pw_below_drewN|apply below_drew1)|exact HB.out)) hb);clear HB;have HB:=n0_;clear n0_;(try clear hb);(try clear hb2);(try clear hk);(try clear hi)))
        go_roundg k1
        case measure => have:=HK1.out;omega
        case rel => exact ⟨(x8_1),(ji12),(wrap64 (x7_1 + t240)),(wrap64 (x8_1 + 1)),(by first|rfl|(simp;done)|(simp [Go.Proofs.Ytffgodpmmipnkaa.Z.bne_nil,Go.Proofs.Ytffgodpmmipnkaa.Z.beq_nil];done)|(simp [*];done)),(by first|rfl|(simp;done)|(simp only [← hji12] <;> (first|rfl|simp))|(simp [*];done)),(by first|rfl|(simp;done)|(simp [Go.Proofs.Ytffgodpmmipnkaa.Z.bne_nil,Go.Proofs.Ytffgodpmmipnkaa.Z.beq_nil];done)|(simp [*];done)),(by first|rfl|(simp;done)|(simp [Go.Proofs.Ytffgodpmmipnkaa.Z.bne_nil,Go.Proofs.Ytffgodpmmipnkaa.Z.beq_nil];done)|(simp [*];done)),H',⟨by have:=HK1.out;omega⟩,⟨by repeat (first|(with_reducible first|exact HB.out|apply below_alloc|apply pw_below_drewN|apply below_drew1)|exact HB.out)⟩⟩
       ·rw [if_neg c13] at H
        have c13b0 : (x5_1 == 0) = false:=beq_eq_false_iff_ne.mpr c13
        have c13b1 : (x5_1 != 0) = true:=bne_iff_ne.mpr c13
        by_cases c15 : (ji12) < x6_1
        ·rw [if_pos c15] at H
         have c15b0 : decide ((ji12) < x6_1) = true:=decide_eq_true c15
         clear c15
         have H':=Aside0.mk H
         clear H
         have p239 : 0 ≤ ((ji8) : Int):=of_decide_eq_true (by first|(with_reducible assumption)|assumption)
         have q239 : (ji8) < (l0.length : Int):=of_decide_eq_true (by first|(with_reducible assumption)|assumption)
         obtain ⟨ad239,e239,hx239_0,hx239_1⟩:=at_T37 HR0.out (ji8) p239 q239
         cases e239
         replace hx239_0:=(HB.out.cell (World.block_lt_of_cell? w _ hx239_0)).trans hx239_0
         replace hx239_1:=(HB.out.cell (World.block_lt_of_cell? w _ hx239_1)).trans hx239_1
         replace p239:=eq_true p239
         replace q239:=eq_true q239
         go_wp2_with (first|((with_reducible refine gate_callee (f:=38) rfl ?_);refine goesL_ (some 29) rfl rfl Try.func38 (by kernel_rfl) rfl #[.agg #[.string ((rd_T37 l0 (ji8)).f0),.string ((rd_T37 l0 (ji8)).f1)]] rfl (by (try simp only [List.map_toArray,List.map_cons,List.map_nil]);first|done|(simp only [hji8];rfl)|rfl|(simp only [List.length_drop,List.length_take];rfl)) ?_;(with_reducible refine (page_size.calls ((rd_T37 l0 (ji8)).f0) ((rd_T37 l0 (ji8)).f1) t240 _ A11.out).mono ?_);rintro e w16 ⟨rfl,hb⟩;refine ⟨_,rfl,?_⟩;have n0_:=Aside0.mk (below_step (by repeat (first|(with_reducible first|exact HB.out|apply below_alloc|apply pw_below_drewN|apply below_drew1)|exact HB.out)) hb);clear HB;have HB:=n0_;clear n0_;(try clear hb);(try clear hb2);(try clear hk);(try clear hi)))
         go_roundg k1
         case measure => have:=HK1.out;omega
         case rel => exact ⟨(x8_1),(ji12),(wrap64 (x7_1 + t240)),(wrap64 (x8_1 + 1)),(by first|rfl|(simp;done)|(simp [Go.Proofs.Ytffgodpmmipnkaa.Z.bne_nil,Go.Proofs.Ytffgodpmmipnkaa.Z.beq_nil];done)|(simp [*];done)),(by first|rfl|(simp;done)|(simp only [← hji12] <;> (first|rfl|simp))|(simp [*];done)),(by first|rfl|(simp;done)|(simp [Go.Proofs.Ytffgodpmmipnkaa.Z.bne_nil,Go.Proofs.Ytffgodpmmipnkaa.Z.beq_nil];done)|(simp [*];done)),(by first|rfl|(simp;done)|(simp [Go.Proofs.Ytffgodpmmipnkaa.Z.bne_nil,Go.Proofs.Ytffgodpmmipnkaa.Z.beq_nil];done)|(simp [*];done)),H',⟨by have:=HK1.out;omega⟩,⟨by repeat (first|(with_reducible first|exact HB.out|apply below_alloc|apply pw_below_drewN|apply below_drew1)|exact HB.out)⟩⟩
        ·rw [if_neg c15] at H
         have c15b0 : decide ((ji12) < x6_1) = false:=decide_eq_false c15
         clear c15
         have H':=Aside0.mk H
         clear H
         have p239 : 0 ≤ ((ji8) : Int):=of_decide_eq_true (by first|(with_reducible assumption)|assumption)
         have q239 : (ji8) < (l0.length : Int):=of_decide_eq_true (by first|(with_reducible assumption)|assumption)
         obtain ⟨ad239,e239,hx239_0,hx239_1⟩:=at_T37 HR0.out (ji8) p239 q239
         cases e239
         replace hx239_0:=(HB.out.cell (World.block_lt_of_cell? w _ hx239_0)).trans hx239_0
         replace hx239_1:=(HB.out.cell (World.block_lt_of_cell? w _ hx239_1)).trans hx239_1
         replace p239:=eq_true p239
         replace q239:=eq_true q239
         go_wp2_with (first|((with_reducible refine gate_callee (f:=38) rfl ?_);refine goesL_ (some 29) rfl rfl Try.func38 (by kernel_rfl) rfl #[.agg #[.string ((rd_T37 l0 (ji8)).f0),.string ((rd_T37 l0 (ji8)).f1)]] rfl (by (try simp only [List.map_toArray,List.map_cons,List.map_nil]);first|done|(simp only [hji8];rfl)|rfl|(simp only [List.length_drop,List.length_take];rfl)) ?_;(with_reducible refine (page_size.calls ((rd_T37 l0 (ji8)).f0) ((rd_T37 l0 (ji8)).f1) t240 _ A11.out).mono ?_);rintro e w17 ⟨rfl,hb⟩;refine ⟨_,rfl,?_⟩;have n0_:=Aside0.mk (below_step (by repeat (first|(with_reducible first|exact HB.out|apply below_alloc|apply pw_below_drewN|apply below_drew1)|exact HB.out)) hb);clear HB;have HB:=n0_;clear n0_;(try clear hb);(try clear hb2);(try clear hk);(try clear hi)))
         go_roundg k1
         case measure => have:=HK1.out;omega
         case rel => exact ⟨(x5_1),(x6_1),(wrap64 (x7_1 + t240)),(wrap64 (x8_1 + 1)),(by first|rfl|(simp;done)|(simp [Go.Proofs.Ytffgodpmmipnkaa.Z.bne_nil,Go.Proofs.Ytffgodpmmipnkaa.Z.beq_nil];done)|(simp [*];done)),(by first|rfl|(simp;done)|(simp [Go.Proofs.Ytffgodpmmipnkaa.Z.bne_nil,Go.Proofs.Ytffgodpmmipnkaa.Z.beq_nil];done)|(simp [*];done)),(by first|rfl|(simp;done)|(simp [Go.Proofs.Ytffgodpmmipnkaa.Z.bne_nil,Go.Proofs.Ytffgodpmmipnkaa.Z.beq_nil];done)|(simp [*];done)),(by first|rfl|(simp;done)|(simp [Go.Proofs.Ytffgodpmmipnkaa.Z.bne_nil,Go.Proofs.Ytffgodpmmipnkaa.Z.beq_nil];done)|(simp [*];done)),H',⟨by have:=HK1.out;omega⟩,⟨by repeat (first|(with_reducible first|exact HB.out|apply below_alloc|apply pw_below_drewN|apply below_drew1)|exact HB.out)⟩⟩
      ·rw [if_neg c10] at H
       exact absurd H (by simp)
     ·rw [if_neg c9] at H
      exact absurd H (by simp)
    ·rw [if_neg c7] at H
     have c7b0 : decide (x8_1 < (l0.length : Int)) = false:=decide_eq_false c7
     clear c7
     by_cases c18 : 0 ≤ x5_1
     ·rw [if_pos c18] at H
      have c18b0:=eq_true c18
      have c18b1 : decide (0 ≤ x5_1) = true:=decide_eq_true c18
      clear c18
      by_cases c19 : x5_1 ≤ (l0.length : Int)
      ·rw [if_pos c19] at H
       have c19b0:=eq_true c19
       have c19b1 : decide (x5_1 ≤ (l0.length : Int)) = true:=decide_eq_true c19
       clear c19
       obtain ⟨y241,hy241⟩ : ∃ y_ : List (S37),y_ = (l0.take (x5_1 : Int).toNat):=⟨_,rfl⟩
       replace H : ((api_Entry_42.f y241).bind fun t245 => ((api_Entry_42.f (l0.drop (x5_1 : Int).toNat)).bind fun t252 => (some (t245,t252)))) = some (r1,r2):=by first|(rw [hy241];with_reducible exact H)|(have H2_:=(Option.bind_some _ _).symm.trans H;rw [hy241];with_reducible exact H2_)|(have H2_:=(Option.bind_some _ _).symm.trans H;with_reducible exact H2_)|with_reducible exact H|(rw [hy241];exact H)|exact H
       have Ny241:=Aside0.mk hy241
       clear hy241
       replace H:=Option.bind_eq_some_iff.mp H
       obtain ⟨t245,A200,H⟩:=H
       replace H : ((api_Entry_42.f (l0.drop (x5_1 : Int).toNat)).bind fun t252 => (some (t245,t252))) = some (r1,r2):=H
       have A20:=Aside0.mk A200
       clear A200
       have c21b0:=eq_true (of_decide_eq_true (by first|(with_reducible assumption)|assumption) : 0 ≤ x5_1)
       have c22b0:=eq_true (of_decide_eq_true (by first|(with_reducible assumption)|assumption) : x5_1 ≤ (l0.length : Int))
       obtain ⟨y248,hy248⟩ : ∃ y_ : List (S37),y_ = (l0.drop (x5_1 : Int).toNat):=⟨_,rfl⟩
       replace H : ((api_Entry_42.f y248).bind fun t252 => (some (t245,t252))) = some (r1,r2):=by first|(rw [hy248];with_reducible exact H)|(have H2_:=(Option.bind_some _ _).symm.trans H;rw [hy248];with_reducible exact H2_)|(have H2_:=(Option.bind_some _ _).symm.trans H;with_reducible exact H2_)|with_reducible exact H|(rw [hy248];exact H)|exact H
       have Ny248:=Aside0.mk hy248
       clear hy248
       replace H:=Option.bind_eq_some_iff.mp H
       obtain ⟨t252,A230,H⟩:=H
       replace H : (some (t245,t252)) = some (r1,r2):=H
       have A23:=Aside0.mk A230
       clear A230
       simp only [Option.some.injEq,Prod.mk.injEq] at H
       obtain ⟨rfl,rfl⟩:=H
       try go_wp2
       have n0_:=Aside0.mk (below_drew1 HB.out)
       clear HB
       have HB:=n0_
       clear n0_
       have q25 : (x5_1 : Int) ≤ ((l0.length : Int) : Int):=of_decide_eq_true (by first|(with_reducible assumption)|assumption)
       obtain ⟨i025,hi025,_,hsz25,_⟩:=info_parts info37
       have hroom25 : l0.length ≤ c0:=HC0.out
       have hC25 : Kd.C k37 _ A0 l0.length l0:=HR0.out
       have hcut25:=cut_to (P:=Try.prog) 22 37 .i64 Try.underlying22 hi025 A0 l0.length c0 x5_1 (of_decide_eq_true (by first|(with_reducible assumption)|assumption)) q25 hroom25
       have hr25:=Kd.C_take (m:=(x5_1 : Int).toNat) hC25 (by omega)
       have hy25 : y241.length = (x5_1 : Int).toNat:=(by rw [Ny241.out,List.length_take];omega)
       rw [← Ny241.out] at hr25
       rw [← hy25] at hcut25
       have HR244:=Aside0.mk hr25
       have HC244:=Aside0.mk (show y241.length ≤ c0 from by omega)
       clear hr25 hC25 hroom25 hi025 hsz25
       have KY25:=Aside0.mk hy25
       clear hy25
       replace q25:=eq_true q25
       have q26 : (x5_1 : Int) ≤ ((l0.length : Int) : Int):=of_decide_eq_true (by first|(with_reducible assumption)|assumption)
       obtain ⟨i026,hi026,_,hsz26,_⟩:=info_parts info37
       have hroom26 : l0.length ≤ c0:=HC0.out
       have hC26 : Kd.C k37 _ A0 l0.length l0:=HR0.out
       have q026 : (0 : Int) ≤ (x5_1 : Int):=of_decide_eq_true (by first|(with_reducible assumption)|assumption)
       have hcut26:=cut_from (P:=Try.prog) 22 37 .i64 Try.underlying22 hi026 2 hsz26 A0 l0.length c0 x5_1 q026 q26
       have hr26:=Kd.C_drop (m:=(x5_1 : Int).toNat) (c:=c0) hC26 (by omega) hroom26
       obtain ⟨A26,hA26⟩ : ∃ A1,A1 = (if c0 = (x5_1 : Int).toNat then A0 else (A0 : Option Addr).map (·.add ((x5_1 : Int).toNat * 2))):=⟨_,rfl⟩
       obtain ⟨c26,hc26⟩ : ∃ c1,c1 = c0 - (x5_1 : Int).toNat:=⟨_,rfl⟩
       have hy26 : y248.length = l0.length - (x5_1 : Int).toNat:=(by rw [Ny248.out,List.length_drop] <;> omega)
       rw [show (l0).drop (x5_1 : Int).toNat = y248 from Ny248.out.symm] at hr26
       replace hr26 : Kd.C k37 _ A26 y248.length y248:=(by rw [hA26];exact hr26)
       rw [← hy26,← hA26,← hc26] at hcut26
       have HR251:=Aside0.mk hr26
       have HC251:=Aside0.mk (show y248.length ≤ c26 from by rw [hy26,hc26];exact Nat.sub_le_sub_right hroom26 _)
       clear hr26 hC26 hroom26 hi026 hsz26 hc26
       have KY26:=Aside0.mk hy26
       have KA26:=Aside0.mk hA26
       clear hy26 hA26
       replace q26:=eq_true q26
       refine start_ (n:=10) (S:=fun w' => True) (ds:=[]) #[false,false,false,false,false,false,false,false,false,false] (by kernel_rfl) rfl rfl trivial (fun hHeld => ?_);refine with_tabW page_Split.tab12 page_Split.bits12 (fun HT_ HW_ => ?_)
       generalize wr.drew = w24 at HB HR244 HR251 hHeld ⊢
       refine pure_ (i:=0) (N:=some 45) (v:=?_) (a':=?_) #[true,false,false,false,false,false,false,false,false,false] rfl rfl (any_of HT_.out (by kernel_rfl)) (fun _ _ _ h => h) (Or.inl ⟨by rfl,?_⟩) ?_ ?_
       rotate_left
       ·intro w'
        go_simp
        with_reducible rfl
       rotate_left
       ·simp only [Act.put,List.setIfInBounds_toArray,List.set_cons_zero,List.set_cons_succ,i64_w,i32_w]
        rfl
       refine pure_ (i:=1) (N:=some 46) (v:=?_) (a':=?_) #[true,true,false,false,false,false,false,false,false,false] rfl rfl (any_of HT_.out (by kernel_rfl)) (fun _ _ _ h => h) (Or.inl ⟨by rfl,?_⟩) ?_ ?_
       rotate_left
       ·intro w'
        go_simp
        with_reducible rfl
       rotate_left
       ·simp only [Act.put,List.setIfInBounds_toArray,List.set_cons_zero,List.set_cons_succ,i64_w,i32_w]
        rfl
       refine pure_ (i:=2) (N:=some 47) (v:=?_) (a':=?_) #[true,true,true,false,false,false,false,false,false,false] rfl rfl (any_of HT_.out (by kernel_rfl)) (fun _ _ _ h => h) (Or.inl ⟨by rfl,?_⟩) ?_ ?_
       rotate_left
       ·intro w'
        go_simp
        with_reducible rfl
       rotate_left
       ·simp only [Act.put,List.setIfInBounds_toArray,List.set_cons_zero,List.set_cons_succ,i64_w,i32_w]
        rfl
       refine pure_ (i:=4) (N:=some 49) (v:=?_) (a':=?_) #[true,true,true,false,true,false,false,false,false,false] rfl rfl (any_of HT_.out (by kernel_rfl)) (fun _ _ _ h => h) (Or.inl ⟨by rfl,?_⟩) ?_ ?_
       rotate_left
       ·intro w'
        go_simp
        with_reducible rfl
       rotate_left
       ·simp only [Act.put,List.setIfInBounds_toArray,List.set_cons_zero,List.set_cons_succ,i64_w,i32_w]
        rfl
       refine pure_ (i:=5) (N:=some 50) (v:=?_) (a':=?_) #[true,true,true,false,true,true,false,false,false,false] rfl rfl (any_of HT_.out (by kernel_rfl)) (fun _ _ _ h => h) (Or.inl ⟨by rfl,?_⟩) ?_ ?_
       rotate_left
       ·intro w'
        go_simp
        with_reducible rfl
       rotate_left
       ·simp only [Act.put,List.setIfInBounds_toArray,List.set_cons_zero,List.set_cons_succ,i64_w,i32_w]
        rfl
       refine pure_ (i:=6) (N:=some 51) (v:=?_) (a':=?_) #[true,true,true,false,true,true,true,false,false,false] rfl rfl (any_of HT_.out (by kernel_rfl)) (fun _ _ _ h => h) (Or.inl ⟨by rfl,?_⟩) ?_ ?_
       rotate_left
       ·intro w'
        go_simp
        with_reducible rfl
       rotate_left
       ·simp only [Act.put,List.setIfInBounds_toArray,List.set_cons_zero,List.set_cons_succ,i64_w,i32_w]
        rfl
       refine one_ (i:=3) (N:=some 48) #[true,true,true,true,true,true,true,false,false,false] rfl rfl (one_of HT_.out (by kernel_rfl)) (by decide) (fun K hK => ?_)
       refine goes_ Try.func42 (by kernel_rfl) rfl #[.slice A0 y241.length c0] (by rfl) rfl rfl (by (try simp only [List.map_toArray,List.map_cons,List.map_nil]);first|done|rfl|(simp only [List.length_drop,List.length_take];rfl)) ?_
       with_reducible refine (api_Entry_42.calls _ _ y241 t245 _ ?side1 ?side2 A20.out).mono ?_
       (case side1 => repeat (first|exact (Kd.C_below HR244.out HB.out)|(with_reducible refine Kd.C_alloc ?_ _)|(with_reducible refine Kd.C_drewN ?_ _)|(with_reducible refine Kd.C_drew ?_)))
       (case side2 => exact HC244.out)
       rintro e w27 ⟨v246,rfl,ho0,hb⟩
       refine ⟨_,rfl,?_⟩
       have n0_:=Aside0.mk (Kd.R_lower ho0 (below_size (by repeat (first|(with_reducible first|exact HB.out|apply below_alloc|apply pw_below_drewN|apply below_drew1)|exact HB.out))))
       have n1_:=Aside0.mk (below_step (by repeat (first|(with_reducible first|exact HB.out|apply below_alloc|apply pw_below_drewN|apply below_drew1)|exact HB.out)) hb)
       clear HB
       have HO247:=n0_
       have HB:=n1_
       clear n0_ n1_
       (try clear hb)
       (try clear hb2)
       (try clear hk)
       (try clear hi)
       (try clear ho0)
       refine hK.out _ _ trivial (fun hHeld => ?_)
       clear hK K
       refine norm_ (a':=?_) ?_ ?_
       rotate_left
       ·show Act.put _ (some 48) _ = _
        simp only [Act.put,List.setIfInBounds_toArray,List.set_cons_zero,List.set_cons_succ,i64_w,i32_w]
        rfl
       refine one_ (i:=7) (N:=some 52) #[true,true,true,true,true,true,true,true,false,false] rfl rfl (one_of HT_.out (by kernel_rfl)) (by decide) (fun K hK => ?_)
       refine goes_ Try.func42 (by kernel_rfl) rfl #[.slice A26 y248.length c26] (by rfl) rfl rfl (by (try simp only [List.map_toArray,List.map_cons,List.map_nil]);first|done|rfl|(simp only [List.length_drop,List.length_take];rfl)) ?_
       with_reducible refine (api_Entry_42.calls _ _ y248 t252 _ ?side1 ?side2 A23.out).mono ?_
       (case side1 => repeat (first|exact (Kd.C_below HR251.out HB.out)|(with_reducible refine Kd.C_alloc ?_ _)|(with_reducible refine Kd.C_drewN ?_ _)|(with_reducible refine Kd.C_drew ?_)))
       (case side2 => exact HC251.out)
       rintro e w28 ⟨v253,rfl,ho0,hb⟩
       refine ⟨_,rfl,?_⟩
       have n0_:=Aside0.mk (Kd.R_elder' (by (with_reducible repeat (first|apply Kd.R_alloc|apply Kd.R_drewN|apply Kd.R_drew));exact HO247.out) (Kd.R_base ho0) hb)
       have n1_:=Aside0.mk (Kd.R_lower (Kd.R_new' ho0 (Kd.R_lt (by (with_reducible repeat (first|apply Kd.R_alloc|apply Kd.R_drewN|apply Kd.R_drew));exact HO247.out))) (below_size (by repeat (first|(with_reducible first|exact HB.out|apply below_alloc|apply pw_below_drewN|apply below_drew1)|exact HB.out))))
       have n2_:=Aside0.mk (below_step (by repeat (first|(with_reducible first|exact HB.out|apply below_alloc|apply pw_below_drewN|apply below_drew1)|exact HB.out)) hb)
       clear HO247
       clear HB
       have HO247:=n0_
       have HO254:=n1_
       have HB:=n2_
       clear n0_ n1_ n2_
       (try clear hb)
       (try clear hb2)
       (try clear hk)
       (try clear hi)
       (try clear ho0)
       refine hK.out _ _ trivial (fun hHeld => ?_)
       clear hK K
       refine norm_ (a':=?_) ?_ ?_
       rotate_left
       ·show Act.put _ (some 52) _ = _
        simp only [Act.put,List.setIfInBounds_toArray,List.set_cons_zero,List.set_cons_succ,i64_w,i32_w]
        rfl
       refine pure_ (i:=8) (N:=some 2) (v:=?_) (a':=?_) #[true,true,true,true,true,true,true,true,true,false] rfl rfl (any_of HT_.out (by kernel_rfl)) (fun _ _ _ h => h) (Or.inl ⟨by rfl,?_⟩) ?_ ?_
       rotate_left
       ·intro w'
        go_simp
        with_reducible rfl
       rotate_left
       ·simp only [Act.put,List.setIfInBounds_toArray,List.set_cons_zero,List.set_cons_succ,i64_w,i32_w]
        rfl
       refine pure_ (i:=9) (N:=some 3) (v:=?_) (a':=?_) #[true,true,true,true,true,true,true,true,true,true] rfl rfl (any_of HT_.out (by kernel_rfl)) (fun _ _ _ h => h) (Or.inl ⟨by rfl,?_⟩) ?_ ?_
       rotate_left
       ·intro w'
        go_simp
        with_reducible rfl
       rotate_left
       ·simp only [Act.put,List.setIfInBounds_toArray,List.set_cons_zero,List.set_cons_succ,i64_w,i32_w]
        rfl
       refine done_ (done_of HT_.out (by kernel_rfl)) ?_
       try go_wp2
       go_ret2
       exact ⟨_,_,by first|rfl|(simp [errW_none,errW_some] <;> rfl)|(simp [*,errW_none,errW_some] <;> rfl),by (with_reducible repeat (first|apply Kd.R_alloc|apply Kd.R_drewN|apply Kd.R_drew));exact Kd.R_mono HO247.out (fun _ hk => hk.2),by (with_reducible repeat (first|apply Kd.R_alloc|apply Kd.R_drewN|apply Kd.R_drew));exact Kd.R_mono HO254.out (fun _ hk => hk.2),by repeat (first|(with_reducible first|exact HB.out|apply below_alloc|apply pw_below_drewN|apply below_drew1)|exact HB.out)⟩
      ·rw [if_neg c19] at H
       exact absurd H (by simp)
     ·rw [if_neg c18] at H
      exact absurd H (by simp)

end Go.Proofs.Ytffgodpmmipnkaa.X
