-- By a program of this session (wip/xprint.py over the kit's print).
import Derived.Test.YtffgodpmmipnkaaX0
import Derived.Test.YtffgodpmmipnkaaXA
import Derived.Test.YtffgodpmmipnkaaX26
import Derived.Test.YtffgodpmmipnkaaX27
import Derived.Test.YtffgodpmmipnkaaX29
import Derived.Test.YtffgodpmmipnkaaX30
import Derived.Test.YtffgodpmmipnkaaX31
import Derived.Test.YtffgodpmmipnkaaX32
import Derived.Test.YtffgodpmmipnkaaX33
import Derived.Test.YtffgodpmmipnkaaX42
import Derived.Test.YtffgodpmmipnkaaLentS
import Derived.Test.YtffgodpmmipnkaaKeptS
namespace Go.Proofs.Ytffgodpmmipnkaa.X
open Go.RowKit Go.Proofs.YtffgodpmmipnkaaW.PrintWords Go.Proofs.YtffgodpmmipnkaaW.PrintLast Go.Proofs.YtffgodpmmipnkaaW.PrintMore
attribute [local go_sem] max2_int min2_int max_two min_two max_three min_three max_four min_four Go.Proofs.Ytffgodpmmipnkaa.Z.leq_string Go.Proofs.Ytffgodpmmipnkaa.Z.gtr_string Go.Proofs.Ytffgodpmmipnkaa.Z.geq_string   -- for this text's walks alone
set_option linter.unusedVariables false
set_option linter.unusedSimpArgs false

/-! ### cofferlaw10_PageBytes: function 3 -/
mutual
def cofferlaw10_PageBytes.j0 : Nat → Int → Int → List (S37) → Bool → Option (Bool)
 | 0,_,_,_,_ => none
 | k + 1,x0,x1,x9,x107 => if x107 = true then (none) else (cofferlaw10_PageBytes.l0 k x0 x1 x9 0)
def cofferlaw10_PageBytes.l0 : Nat → Int → Int → List (S37) → Int → Option (Bool)
 | 0,_,_,_,_ => none
 | k + 1,x0,x1,x9,x20 => if x20 < (x9.length : Int) then (if 0 ≤ x20 then (if ((rd_T37 x9 x20).f1).size + 1 ≤ 9223372036854775807 then (cofferlaw10_PageBytes.l0 k x0 x1 (x9.set (x20 : Int).toNat (⟨(rd_T37 x9 x20).f0,((rd_T37 x9 x20).f1) ++ (⟨#[120]⟩ : ByteArray)⟩ : S37)) (wrap64 (x20 + 1))) else (none)) else (none)) else ((page_Write.f k x0 x1 x9).bind fun bt329 => ((cofferref10_Write.f k x0 x1 x9).bind fun bt331 => (if bt329.1.toList = bt331.1.toList then (if bt329.2 = bt331.2 then ((page_Size.f k x9).bind fun t333 => ((cofferref10_Size.f k x9).bind fun t334 => (if t333 = t334 then ((cofferlaw10_first.f k).bind fun t335 => (some t335)) else (none)))) else (none)) else (none))))
end
def cofferlaw10_PageBytes.f (k : Nat) (a0 : Int) (a1 : Int) (l2 : List (S37)) (a3 : ByteArray) : Option (Bool):=(cofferlaw10_lent.f l2).bind fun t302 => ((page_Write.f k a0 a1 t302).bind fun bt305 => ((page_Write.f k a0 a1 t302).bind fun bt307 => ((cofferref10_Write.f k a0 a1 l2).bind fun bt309 => ((page_Read.f k a3).bind fun bt311 => ((cofferref10_Read.f k a3).bind fun bt318 => (if bt305.1.toList = bt309.1.toList then (if bt305.2 = bt309.2 then (if bt307.1.toList = bt309.1.toList then (if bt307.2 = bt309.2 then ((cofferlaw10_keptS.f k t302 l2).bind fun t325 => (if t325 = true then (if bt311.2.2.2 = bt318.2.2.2 then (if bt311.1 = bt318.1 then (if bt311.2.1 = bt318.2.1 then ((cofferlaw10_same.f k bt311.2.2.1 bt318.2.2.1).bind fun t326 => (cofferlaw10_PageBytes.j0 k a0 a1 t302 (!t326))) else (cofferlaw10_PageBytes.j0 k a0 a1 t302 true)) else (cofferlaw10_PageBytes.j0 k a0 a1 t302 true)) else (cofferlaw10_PageBytes.j0 k a0 a1 t302 true)) else (cofferlaw10_PageBytes.j0 k a0 a1 t302 true))) else (cofferlaw10_PageBytes.j0 k a0 a1 t302 true)) else (cofferlaw10_PageBytes.j0 k a0 a1 t302 true)) else (cofferlaw10_PageBytes.j0 k a0 a1 t302 true)) else (cofferlaw10_PageBytes.j0 k a0 a1 t302 true)))))))
theorem cofferlaw10_PageBytes.mono_l : ∀ k,(∀ y0 y1 y2 y3,LeO (cofferlaw10_PageBytes.j0 k y0 y1 y2 y3) (cofferlaw10_PageBytes.j0 (k + 1) y0 y1 y2 y3)) ∧ (∀ y0 y1 y2 y3,LeO (cofferlaw10_PageBytes.l0 k y0 y1 y2 y3) (cofferlaw10_PageBytes.l0 (k + 1) y0 y1 y2 y3))
 | 0 => ⟨fun _ _ _ _ r h => by simp [cofferlaw10_PageBytes.j0] at h,fun _ _ _ _ r h => by simp [cofferlaw10_PageBytes.l0] at h⟩
 | k + 1 => by
  obtain ⟨ih0,ih1⟩:=cofferlaw10_PageBytes.mono_l k
  refine ⟨?_,?_⟩
  ·intro y0 y1 y2 y3
   unfold cofferlaw10_PageBytes.j0
   repeat' first
   | (with_reducible exact ih0 _ _ _ _)
   | (with_reducible exact ih1 _ _ _ _)
   | (with_reducible exact cofferlaw10_first.mono _)
   | (with_reducible exact cofferlaw10_keptS.mono _ _ _)
   | (with_reducible exact cofferlaw10_same.mono _ _ _)
   | (with_reducible exact cofferref10_Read.mono _ _)
   | (with_reducible exact cofferref10_Size.mono _ _)
   | (with_reducible exact cofferref10_Write.mono _ _ _ _)
   | (with_reducible exact page_Read.mono _ _)
   | (with_reducible exact page_Size.mono _ _)
   | (with_reducible exact page_Write.mono _ _ _ _)
   | (with_reducible exact LeO.refl _)
   | (with_reducible exact LeO.none _)
   | (with_reducible refine LeO.ite ?_ ?_)
   | (with_reducible refine LeO.bind ?_ (fun _ => ?_))
   | exact ih0 _ _ _ _
   | exact ih1 _ _ _ _
   | exact cofferlaw10_first.mono _
   | exact cofferlaw10_keptS.mono _ _ _
   | exact cofferlaw10_same.mono _ _ _
   | exact cofferref10_Read.mono _ _
   | exact cofferref10_Size.mono _ _
   | exact cofferref10_Write.mono _ _ _ _
   | exact page_Read.mono _ _
   | exact page_Size.mono _ _
   | exact page_Write.mono _ _ _ _
   | exact LeO.none _
   | refine LeO.ite ?_ ?_
   | refine LeO.bind ?_ (fun _ => ?_)
  ·intro y0 y1 y2 y3
   unfold cofferlaw10_PageBytes.l0
   repeat' first
   | (with_reducible exact ih0 _ _ _ _)
   | (with_reducible exact ih1 _ _ _ _)
   | (with_reducible exact cofferlaw10_first.mono _)
   | (with_reducible exact cofferlaw10_keptS.mono _ _ _)
   | (with_reducible exact cofferlaw10_same.mono _ _ _)
   | (with_reducible exact cofferref10_Read.mono _ _)
   | (with_reducible exact cofferref10_Size.mono _ _)
   | (with_reducible exact cofferref10_Write.mono _ _ _ _)
   | (with_reducible exact page_Read.mono _ _)
   | (with_reducible exact page_Size.mono _ _)
   | (with_reducible exact page_Write.mono _ _ _ _)
   | (with_reducible exact LeO.refl _)
   | (with_reducible exact LeO.none _)
   | (with_reducible refine LeO.ite ?_ ?_)
   | (with_reducible refine LeO.bind ?_ (fun _ => ?_))
   | exact ih0 _ _ _ _
   | exact ih1 _ _ _ _
   | exact cofferlaw10_first.mono _
   | exact cofferlaw10_keptS.mono _ _ _
   | exact cofferlaw10_same.mono _ _ _
   | exact cofferref10_Read.mono _ _
   | exact cofferref10_Size.mono _ _
   | exact cofferref10_Write.mono _ _ _ _
   | exact page_Read.mono _ _
   | exact page_Size.mono _ _
   | exact page_Write.mono _ _ _ _
   | exact LeO.none _
   | refine LeO.ite ?_ ?_
   | refine LeO.bind ?_ (fun _ => ?_)
theorem cofferlaw10_PageBytes.mono : ∀ a0 a1 a2 a3 k,LeO (cofferlaw10_PageBytes.f k a0 a1 a2 a3) (cofferlaw10_PageBytes.f (k + 1) a0 a1 a2 a3):=by
 intro a0 a1 a2 a3 k
 obtain ⟨ih0,ih1⟩:=cofferlaw10_PageBytes.mono_l k
 unfold cofferlaw10_PageBytes.f
 repeat' first
  | (with_reducible exact ih0 _ _ _ _)
  | (with_reducible exact ih1 _ _ _ _)
  | (with_reducible exact cofferlaw10_first.mono _)
  | (with_reducible exact cofferlaw10_keptS.mono _ _ _)
  | (with_reducible exact cofferlaw10_same.mono _ _ _)
  | (with_reducible exact cofferref10_Read.mono _ _)
  | (with_reducible exact cofferref10_Size.mono _ _)
  | (with_reducible exact cofferref10_Write.mono _ _ _ _)
  | (with_reducible exact page_Read.mono _ _)
  | (with_reducible exact page_Size.mono _ _)
  | (with_reducible exact page_Write.mono _ _ _ _)
  | (with_reducible exact LeO.refl _)
  | (with_reducible exact LeO.none _)
  | (with_reducible refine LeO.ite ?_ ?_)
  | (with_reducible refine LeO.bind ?_ (fun _ => ?_))
  | exact ih0 _ _ _ _
  | exact ih1 _ _ _ _
  | exact cofferlaw10_first.mono _
  | exact cofferlaw10_keptS.mono _ _ _
  | exact cofferlaw10_same.mono _ _ _
  | exact cofferref10_Read.mono _ _
  | exact cofferref10_Size.mono _ _
  | exact cofferref10_Write.mono _ _ _ _
  | exact page_Read.mono _ _
  | exact page_Size.mono _ _
  | exact page_Write.mono _ _ _ _
  | exact LeO.none _
  | refine LeO.ite ?_ ?_
  | refine LeO.bind ?_ (fun _ => ?_)
theorem cofferlaw10_PageBytes.j0_true (k : Nat) (y0) (y1) (y2) : cofferlaw10_PageBytes.j0 k y0 y1 y2 true = none:=by cases k <;> simp [cofferlaw10_PageBytes.j0]
set_option maxHeartbeats 8000000 in
set_option maxRecDepth 100000 in
theorem cofferlaw10_PageBytes.calls (k : Nat) (a0 : Int) (a1 : Int) (A2 : Option Addr) (c2 : Nat) (l2 : List (S37)) (a3 : ByteArray) (r : Bool) (w : World) (hr2 : Kd.C k37 w A2 l2.length l2) (hc2 : l2.length ≤ c2) (h : cofferlaw10_PageBytes.f k a0 a1 l2 a3 = some r) :
 Calls Try.prog 3 #[.int .i64 a0,.int .i64 a1,.slice A2 l2.length c2,.string a3] w fun e w' => e = .returned (.bool r) ∧ Below w.heap.size w w':=by
 have hu28:=Try.underlying28
 have hu30:=Try.underlying30
 have HR2:=Aside0.mk hr2
 have HC2:=Aside0.mk hc2
 clear hr2 hc2
 have HB:=Aside0.mk (Below.refl w.heap.size w)
 have H : ((cofferlaw10_lent.f l2).bind fun t302 => ((page_Write.f k a0 a1 t302).bind fun bt305 => ((page_Write.f k a0 a1 t302).bind fun bt307 => ((cofferref10_Write.f k a0 a1 l2).bind fun bt309 => ((page_Read.f k a3).bind fun bt311 => ((cofferref10_Read.f k a3).bind fun bt318 => (if bt305.1.toList = bt309.1.toList then (if bt305.2 = bt309.2 then (if bt307.1.toList = bt309.1.toList then (if bt307.2 = bt309.2 then ((cofferlaw10_keptS.f k t302 l2).bind fun t325 => (if t325 = true then (if bt311.2.2.2 = bt318.2.2.2 then (if bt311.1 = bt318.1 then (if bt311.2.1 = bt318.2.1 then ((cofferlaw10_same.f k bt311.2.2.1 bt318.2.2.1).bind fun t326 => (cofferlaw10_PageBytes.j0 k a0 a1 t302 (!t326))) else (cofferlaw10_PageBytes.j0 k a0 a1 t302 true)) else (cofferlaw10_PageBytes.j0 k a0 a1 t302 true)) else (cofferlaw10_PageBytes.j0 k a0 a1 t302 true)) else (cofferlaw10_PageBytes.j0 k a0 a1 t302 true))) else (cofferlaw10_PageBytes.j0 k a0 a1 t302 true)) else (cofferlaw10_PageBytes.j0 k a0 a1 t302 true)) else (cofferlaw10_PageBytes.j0 k a0 a1 t302 true)) else (cofferlaw10_PageBytes.j0 k a0 a1 t302 true)))))))) = some r:=h
 clear h
 replace H:=Option.bind_eq_some_iff.mp H
 obtain ⟨t302,A50,H⟩:=H
 replace H : ((page_Write.f k a0 a1 t302).bind fun bt305 => ((page_Write.f k a0 a1 t302).bind fun bt307 => ((cofferref10_Write.f k a0 a1 l2).bind fun bt309 => ((page_Read.f k a3).bind fun bt311 => ((cofferref10_Read.f k a3).bind fun bt318 => (if bt305.1.toList = bt309.1.toList then (if bt305.2 = bt309.2 then (if bt307.1.toList = bt309.1.toList then (if bt307.2 = bt309.2 then ((cofferlaw10_keptS.f k t302 l2).bind fun t325 => (if t325 = true then (if bt311.2.2.2 = bt318.2.2.2 then (if bt311.1 = bt318.1 then (if bt311.2.1 = bt318.2.1 then ((cofferlaw10_same.f k bt311.2.2.1 bt318.2.2.1).bind fun t326 => (cofferlaw10_PageBytes.j0 k a0 a1 t302 (!t326))) else (cofferlaw10_PageBytes.j0 k a0 a1 t302 true)) else (cofferlaw10_PageBytes.j0 k a0 a1 t302 true)) else (cofferlaw10_PageBytes.j0 k a0 a1 t302 true)) else (cofferlaw10_PageBytes.j0 k a0 a1 t302 true))) else (cofferlaw10_PageBytes.j0 k a0 a1 t302 true)) else (cofferlaw10_PageBytes.j0 k a0 a1 t302 true)) else (cofferlaw10_PageBytes.j0 k a0 a1 t302 true)) else (cofferlaw10_PageBytes.j0 k a0 a1 t302 true))))))) = some r:=H
 have A5:=Aside0.mk A50
 clear A50
 replace H:=Option.bind_eq_some_iff.mp H
 obtain ⟨⟨t305,t306⟩,A60,H⟩:=H
 replace H : ((page_Write.f k a0 a1 t302).bind fun bt307 => ((cofferref10_Write.f k a0 a1 l2).bind fun bt309 => ((page_Read.f k a3).bind fun bt311 => ((cofferref10_Read.f k a3).bind fun bt318 => (if t305.toList = bt309.1.toList then (if t306 = bt309.2 then (if bt307.1.toList = bt309.1.toList then (if bt307.2 = bt309.2 then ((cofferlaw10_keptS.f k t302 l2).bind fun t325 => (if t325 = true then (if bt311.2.2.2 = bt318.2.2.2 then (if bt311.1 = bt318.1 then (if bt311.2.1 = bt318.2.1 then ((cofferlaw10_same.f k bt311.2.2.1 bt318.2.2.1).bind fun t326 => (cofferlaw10_PageBytes.j0 k a0 a1 t302 (!t326))) else (cofferlaw10_PageBytes.j0 k a0 a1 t302 true)) else (cofferlaw10_PageBytes.j0 k a0 a1 t302 true)) else (cofferlaw10_PageBytes.j0 k a0 a1 t302 true)) else (cofferlaw10_PageBytes.j0 k a0 a1 t302 true))) else (cofferlaw10_PageBytes.j0 k a0 a1 t302 true)) else (cofferlaw10_PageBytes.j0 k a0 a1 t302 true)) else (cofferlaw10_PageBytes.j0 k a0 a1 t302 true)) else (cofferlaw10_PageBytes.j0 k a0 a1 t302 true)))))) = some r:=H
 have A6:=Aside0.mk A60
 clear A60
 replace H:=Option.bind_eq_some_iff.mp H
 obtain ⟨⟨t307,t308⟩,A70,H⟩:=H
 replace H : ((cofferref10_Write.f k a0 a1 l2).bind fun bt309 => ((page_Read.f k a3).bind fun bt311 => ((cofferref10_Read.f k a3).bind fun bt318 => (if t305.toList = bt309.1.toList then (if t306 = bt309.2 then (if t307.toList = bt309.1.toList then (if t308 = bt309.2 then ((cofferlaw10_keptS.f k t302 l2).bind fun t325 => (if t325 = true then (if bt311.2.2.2 = bt318.2.2.2 then (if bt311.1 = bt318.1 then (if bt311.2.1 = bt318.2.1 then ((cofferlaw10_same.f k bt311.2.2.1 bt318.2.2.1).bind fun t326 => (cofferlaw10_PageBytes.j0 k a0 a1 t302 (!t326))) else (cofferlaw10_PageBytes.j0 k a0 a1 t302 true)) else (cofferlaw10_PageBytes.j0 k a0 a1 t302 true)) else (cofferlaw10_PageBytes.j0 k a0 a1 t302 true)) else (cofferlaw10_PageBytes.j0 k a0 a1 t302 true))) else (cofferlaw10_PageBytes.j0 k a0 a1 t302 true)) else (cofferlaw10_PageBytes.j0 k a0 a1 t302 true)) else (cofferlaw10_PageBytes.j0 k a0 a1 t302 true)) else (cofferlaw10_PageBytes.j0 k a0 a1 t302 true))))) = some r:=H
 have A7:=Aside0.mk A70
 clear A70
 replace H:=Option.bind_eq_some_iff.mp H
 obtain ⟨⟨t309,t310⟩,A80,H⟩:=H
 replace H : ((page_Read.f k a3).bind fun bt311 => ((cofferref10_Read.f k a3).bind fun bt318 => (if t305.toList = t309.toList then (if t306 = t310 then (if t307.toList = t309.toList then (if t308 = t310 then ((cofferlaw10_keptS.f k t302 l2).bind fun t325 => (if t325 = true then (if bt311.2.2.2 = bt318.2.2.2 then (if bt311.1 = bt318.1 then (if bt311.2.1 = bt318.2.1 then ((cofferlaw10_same.f k bt311.2.2.1 bt318.2.2.1).bind fun t326 => (cofferlaw10_PageBytes.j0 k a0 a1 t302 (!t326))) else (cofferlaw10_PageBytes.j0 k a0 a1 t302 true)) else (cofferlaw10_PageBytes.j0 k a0 a1 t302 true)) else (cofferlaw10_PageBytes.j0 k a0 a1 t302 true)) else (cofferlaw10_PageBytes.j0 k a0 a1 t302 true))) else (cofferlaw10_PageBytes.j0 k a0 a1 t302 true)) else (cofferlaw10_PageBytes.j0 k a0 a1 t302 true)) else (cofferlaw10_PageBytes.j0 k a0 a1 t302 true)) else (cofferlaw10_PageBytes.j0 k a0 a1 t302 true)))) = some r:=H
 have A8:=Aside0.mk A80
 clear A80
 replace H:=Option.bind_eq_some_iff.mp H
 obtain ⟨⟨t311,t312,t313,t316⟩,A90,H⟩:=H
 replace H : ((cofferref10_Read.f k a3).bind fun bt318 => (if t305.toList = t309.toList then (if t306 = t310 then (if t307.toList = t309.toList then (if t308 = t310 then ((cofferlaw10_keptS.f k t302 l2).bind fun t325 => (if t325 = true then (if t316 = bt318.2.2.2 then (if t311 = bt318.1 then (if t312 = bt318.2.1 then ((cofferlaw10_same.f k t313 bt318.2.2.1).bind fun t326 => (cofferlaw10_PageBytes.j0 k a0 a1 t302 (!t326))) else (cofferlaw10_PageBytes.j0 k a0 a1 t302 true)) else (cofferlaw10_PageBytes.j0 k a0 a1 t302 true)) else (cofferlaw10_PageBytes.j0 k a0 a1 t302 true)) else (cofferlaw10_PageBytes.j0 k a0 a1 t302 true))) else (cofferlaw10_PageBytes.j0 k a0 a1 t302 true)) else (cofferlaw10_PageBytes.j0 k a0 a1 t302 true)) else (cofferlaw10_PageBytes.j0 k a0 a1 t302 true)) else (cofferlaw10_PageBytes.j0 k a0 a1 t302 true))) = some r:=H
 have A9:=Aside0.mk A90
 clear A90
 replace H:=Option.bind_eq_some_iff.mp H
 obtain ⟨⟨t318,t319,t320,t323⟩,A100,H⟩:=H
 replace H : (if t305.toList = t309.toList then (if t306 = t310 then (if t307.toList = t309.toList then (if t308 = t310 then ((cofferlaw10_keptS.f k t302 l2).bind fun t325 => (if t325 = true then (if t316 = t323 then (if t311 = t318 then (if t312 = t319 then ((cofferlaw10_same.f k t313 t320).bind fun t326 => (cofferlaw10_PageBytes.j0 k a0 a1 t302 (!t326))) else (cofferlaw10_PageBytes.j0 k a0 a1 t302 true)) else (cofferlaw10_PageBytes.j0 k a0 a1 t302 true)) else (cofferlaw10_PageBytes.j0 k a0 a1 t302 true)) else (cofferlaw10_PageBytes.j0 k a0 a1 t302 true))) else (cofferlaw10_PageBytes.j0 k a0 a1 t302 true)) else (cofferlaw10_PageBytes.j0 k a0 a1 t302 true)) else (cofferlaw10_PageBytes.j0 k a0 a1 t302 true)) else (cofferlaw10_PageBytes.j0 k a0 a1 t302 true)) = some r:=H
 have A10:=Aside0.mk A100
 clear A100
 have HC11:=Aside0.mk H
 clear H
 go_enter Try.func3,Try.ntmps3
 go_upto_region 7 with (first|((with_reducible refine gate_callee (f:=9) rfl ?_);refine goesL_ (some 22) rfl rfl Try.func9 (by kernel_rfl) rfl #[.slice A2 l2.length c2] rfl (by (try simp only [List.map_toArray,List.map_cons,List.map_nil]);first|done|rfl|(simp only [List.length_drop,List.length_take];rfl)) ?_;(with_reducible refine (cofferlaw10_lent.callsS _ _ l2 t302 _ ?side1 ?side2 A5.out).mono ?_);(case side1 => repeat (first|exact HR2.out|(with_reducible refine Kd.C_alloc ?_ _)|(with_reducible refine Kd.C_drewN ?_ _)|(with_reducible refine Kd.C_drew ?_)));(case side2 => exact HC2.out);rintro e w12 ⟨v303,rfl,ho0,hb,hsp⟩;refine ⟨_,rfl,?_⟩;obtain ⟨As_,cs_,es_,hs_⟩:=hsp;have ES302_:=Aside0.mk es_;have HS304:=Aside0.mk hs_;clear es_ hs_;have n0_:=Aside0.mk (Kd.R_lower ho0 (below_size (by repeat (first|(with_reducible first|exact HB.out|apply below_alloc|apply pw_below_drewN|apply below_drew1)|exact HB.out))));have n1_:=Aside0.mk (below_step (by repeat (first|(with_reducible first|exact HB.out|apply below_alloc|apply pw_below_drewN|apply below_drew1)|exact HB.out)) hb);clear HB;have HO304:=n0_;(try (have HS304:=s0_HS304;clear s0_HS304));have HB:=n1_;clear n0_ n1_;(try clear hb);(try clear hb2);(try clear hk);(try clear hi);(try clear ho0);obtain ⟨Ao13,co13,eo13⟩:=Kd.R_slice HO304.out;subst eo13;have es_:=ES302_.out;injection es_ with e1_ e2_ e3_;subst e1_;subst e3_;clear ES302_ e2_)|((with_reducible refine gate_callee (f:=10) rfl ?_);refine goesL_ (some 28) rfl rfl Try.func10 (by kernel_rfl) rfl #[.agg #[.int .i64 a0,.int .i64 a1,.slice Ao13 t302.length co13]] rfl (by (try simp only [List.map_toArray,List.map_cons,List.map_nil]);first|done|rfl|(simp only [List.length_drop,List.length_take];rfl)) ?_;(with_reducible refine (page_Write.calls k a0 a1 _ _ t302 t305 t306 _ ?side1 ?side2 A6.out).mono ?_);(case side1 => repeat (first|exact (Kd.R_reads' HO304.out).2.2|(with_reducible refine Kd.C_alloc ?_ _)|(with_reducible refine Kd.C_drewN ?_ _)|(with_reducible refine Kd.C_drew ?_)));(case side2 => exact (Kd.R_reads' HO304.out).2.1);rintro e w14 ⟨rfl,hb⟩;refine ⟨_,rfl,?_⟩;have n0_:=Aside0.mk (Kd.R_below (by (with_reducible repeat (first|apply Kd.R_alloc|apply Kd.R_drewN|apply Kd.R_drew));exact HO304.out) hb);(try have s0_HS304:=Aside0.mk (Kd.R_below (by (with_reducible repeat (first|apply Kd.R_alloc|apply Kd.R_drewN|apply Kd.R_drew));exact HS304.out) hb));have n1_:=Aside0.mk (below_step (by repeat (first|(with_reducible first|exact HB.out|apply below_alloc|apply pw_below_drewN|apply below_drew1)|exact HB.out)) hb);clear HO304;(try clear HS304);clear HB;have HO304:=n0_;(try (have HS304:=s0_HS304;clear s0_HS304));have HB:=n1_;clear n0_ n1_;(try clear hb);(try clear hb2);(try clear hk);(try clear hi))|((with_reducible refine gate_callee (f:=10) rfl ?_);refine goesL_ (some 36) rfl rfl Try.func10 (by kernel_rfl) rfl #[.agg #[.int .i64 a0,.int .i64 a1,.slice Ao13 t302.length co13]] rfl (by (try simp only [List.map_toArray,List.map_cons,List.map_nil]);first|done|rfl|(simp only [List.length_drop,List.length_take];rfl)) ?_;(with_reducible refine (page_Write.calls k a0 a1 _ _ t302 t307 t308 _ ?side1 ?side2 A7.out).mono ?_);(case side1 => repeat (first|exact (Kd.R_reads' HO304.out).2.2|(with_reducible refine Kd.C_alloc ?_ _)|(with_reducible refine Kd.C_drewN ?_ _)|(with_reducible refine Kd.C_drew ?_)));(case side2 => exact (Kd.R_reads' HO304.out).2.1);rintro e w15 ⟨rfl,hb⟩;refine ⟨_,rfl,?_⟩;have n0_:=Aside0.mk (Kd.R_below (by (with_reducible repeat (first|apply Kd.R_alloc|apply Kd.R_drewN|apply Kd.R_drew));exact HO304.out) hb);(try have s0_HS304:=Aside0.mk (Kd.R_below (by (with_reducible repeat (first|apply Kd.R_alloc|apply Kd.R_drewN|apply Kd.R_drew));exact HS304.out) hb));have n1_:=Aside0.mk (below_step (by repeat (first|(with_reducible first|exact HB.out|apply below_alloc|apply pw_below_drewN|apply below_drew1)|exact HB.out)) hb);clear HO304;(try clear HS304);clear HB;have HO304:=n0_;(try (have HS304:=s0_HS304;clear s0_HS304));have HB:=n1_;clear n0_ n1_;(try clear hb);(try clear hb2);(try clear hk);(try clear hi))|((with_reducible refine gate_callee (f:=11) rfl ?_);refine goesL_ (some 44) rfl rfl Try.func11 (by kernel_rfl) rfl #[.agg #[.int .i64 a0,.int .i64 a1,.slice A2 l2.length c2]] rfl (by (try simp only [List.map_toArray,List.map_cons,List.map_nil]);first|done|rfl|(simp only [List.length_drop,List.length_take];rfl)) ?_;(with_reducible refine (cofferref10_Write.calls k a0 a1 _ _ l2 t309 t310 _ ?side1 ?side2 A8.out).mono ?_);(case side1 => repeat (first|exact (Kd.C_below HR2.out HB.out)|(with_reducible refine Kd.C_alloc ?_ _)|(with_reducible refine Kd.C_drewN ?_ _)|(with_reducible refine Kd.C_drew ?_)));(case side2 => exact HC2.out);rintro e w16 ⟨rfl,hb⟩;refine ⟨_,rfl,?_⟩;have n0_:=Aside0.mk (Kd.R_below (by (with_reducible repeat (first|apply Kd.R_alloc|apply Kd.R_drewN|apply Kd.R_drew));exact HO304.out) hb);(try have s0_HS304:=Aside0.mk (Kd.R_below (by (with_reducible repeat (first|apply Kd.R_alloc|apply Kd.R_drewN|apply Kd.R_drew));exact HS304.out) hb));have n1_:=Aside0.mk (below_step (by repeat (first|(with_reducible first|exact HB.out|apply below_alloc|apply pw_below_drewN|apply below_drew1)|exact HB.out)) hb);clear HO304;(try clear HS304);clear HB;have HO304:=n0_;(try (have HS304:=s0_HS304;clear s0_HS304));have HB:=n1_;clear n0_ n1_;(try clear hb);(try clear hb2);(try clear hk);(try clear hi))|((with_reducible refine gate_callee (f:=12) rfl ?_);refine goesL_ (some 49) rfl rfl Try.func12 (by kernel_rfl) rfl #[.string a3] rfl (by (try simp only [List.map_toArray,List.map_cons,List.map_nil]);first|done|rfl|(simp only [List.length_drop,List.length_take];rfl)) ?_;(with_reducible refine (page_Read.calls k a3 t311 t312 t313 t316 _ A9.out).mono ?_);rintro e w17 ⟨v314,rfl,ho0,hb⟩;refine ⟨_,rfl,?_⟩;have n0_:=Aside0.mk (Kd.R_elder' (by (with_reducible repeat (first|apply Kd.R_alloc|apply Kd.R_drewN|apply Kd.R_drew));exact HO304.out) (Kd.R_base ho0) hb);(try have s0_HS304:=Aside0.mk (Kd.R_elder' (by (with_reducible repeat (first|apply Kd.R_alloc|apply Kd.R_drewN|apply Kd.R_drew));exact HS304.out) (Kd.R_base ho0) hb));have n1_:=Aside0.mk (Kd.R_lower (Kd.R_new' ho0 (Kd.R_lt (by (with_reducible repeat (first|apply Kd.R_alloc|apply Kd.R_drewN|apply Kd.R_drew));exact HO304.out))) (below_size (by repeat (first|(with_reducible first|exact HB.out|apply below_alloc|apply pw_below_drewN|apply below_drew1)|exact HB.out))));(try have s1_HS304:=Aside0.mk (Kd.R_lower (Kd.R_new' ho0 (Kd.R_lt (by (with_reducible repeat (first|apply Kd.R_alloc|apply Kd.R_drewN|apply Kd.R_drew));exact HS304.out))) (below_size (by repeat (first|(with_reducible first|exact HB.out|apply below_alloc|apply pw_below_drewN|apply below_drew1)|exact HB.out)))));have n2_:=Aside0.mk (below_step (by repeat (first|(with_reducible first|exact HB.out|apply below_alloc|apply pw_below_drewN|apply below_drew1)|exact HB.out)) hb);clear HO304;(try clear HS304);clear HB;have HO304:=n0_;(try (have HS304:=s0_HS304;clear s0_HS304));have HO315:=n1_;have HB:=n2_;clear n0_ n1_ n2_;(try clear hb);(try clear hb2);(try clear hk);(try clear hi);(try clear ho0))|((with_reducible refine gate_dst (N:=16) rfl ?_);refine box_event ?hg (N:=16) ?hd (cs:=#[.int .i64 0,.int .i64 0,.slice none 0 0]) (t:=28) ?hr ?_;(case hd => rfl);(case hg => rfl);(case hr => first|(go_simp;done)|(go_simp;rfl));intro gb317 hg w18 hbox hb;have n0_:=Aside0.mk (Kd.R_below (by (with_reducible repeat (first|apply Kd.R_alloc|apply Kd.R_drewN|apply Kd.R_drew));exact HO304.out) hb);(try have s0_HS304:=Aside0.mk (Kd.R_below (by (with_reducible repeat (first|apply Kd.R_alloc|apply Kd.R_drewN|apply Kd.R_drew));exact HS304.out) hb));have n1_:=Aside0.mk (Kd.R_below (by (with_reducible repeat (first|apply Kd.R_alloc|apply Kd.R_drewN|apply Kd.R_drew));exact HO315.out) hb);have n2_:=Aside0.mk (below_step (by repeat (first|(with_reducible first|exact HB.out|apply below_alloc|apply pw_below_drewN|apply below_drew1)|exact HB.out)) hb);have n3_:=Aside0.mk (hbox);have n4_:=Aside0.mk ((by rw [hg];exact (below_size (by repeat (first|(with_reducible first|exact HB.out|apply below_alloc|apply pw_below_drewN|apply below_drew1)|exact HB.out))) : w.heap.size ≤ gb317));have n5_:=Aside0.mk ((by rw [hg];exact (below_size (by repeat (first|(with_reducible first|exact HB.out|apply below_alloc|apply pw_below_drewN|apply below_drew1)|exact HB.out))) : w.heap.size ≤ gb317));clear HO304;(try clear HS304);clear HO315;clear HB;have HO304:=n0_;(try (have HS304:=s0_HS304;clear s0_HS304));have HO315:=n1_;have HB:=n2_;have BK317:=n3_;have GW317:=n4_;have GE317:=n5_;clear n0_ n1_ n2_ n3_ n4_ n5_;clear hb hbox hg;have hcz19_0 : w18.cell? ⟨gb317,0,none⟩ = some (.int .i64 0):=(blk_cell BK317.out 0).trans rfl;have hcz19_1 : w18.cell? ⟨gb317,1,none⟩ = some (.int .i64 0):=(blk_cell BK317.out 1).trans rfl;have hcz19_2 : w18.cell? ⟨gb317,2,none⟩ = some (.slice none 0 0):=(blk_cell BK317.out 2).trans rfl;have hfz19_0:=blk_frozen BK317.out 0;have hfz19_1:=blk_frozen BK317.out 1;have hfz19_2:=blk_frozen BK317.out 2;obtain ⟨Ao20,co20,eo20⟩:=Kd.R_slice HO315.out;subst eo20)|((with_reducible refine gate_callee (f:=13) rfl ?_);refine goesL_ (some 54) rfl rfl Try.func13 (by kernel_rfl) rfl #[.string a3] rfl (by (try simp only [List.map_toArray,List.map_cons,List.map_nil]);first|done|rfl|(simp only [List.length_drop,List.length_take];rfl)) ?_;(with_reducible refine (cofferref10_Read.calls k a3 t318 t319 t320 t323 _ A10.out).mono ?_);rintro e w21 ⟨v321,rfl,ho0,hb⟩;refine ⟨_,rfl,?_⟩;have n0_:=Aside0.mk (Kd.R_elder' (by (with_reducible repeat (first|apply Kd.R_alloc|apply Kd.R_drewN|apply Kd.R_drew));exact (Kd.R_mono (Kd.R_far (p:=⟨gb317,2,none⟩) (Kd.R_far (p:=⟨gb317,1,none⟩) (Kd.R_far (p:=⟨gb317,0,none⟩) (Kd.R_types HO304.out BK317.out (by decide)) (fun _ hk => hk.2) (.int .i64 t311)) (fun _ hk => hk.2) (.int .i64 t312)) (fun _ hk => hk.2) (.slice Ao20 t313.length co20)) (fun _ h_ => h_.1))) (Kd.R_base ho0) hb);(try have s0_HS304:=Aside0.mk (Kd.R_elder' (by (with_reducible repeat (first|apply Kd.R_alloc|apply Kd.R_drewN|apply Kd.R_drew));exact (Kd.R_mono (Kd.R_far (p:=⟨gb317,2,none⟩) (Kd.R_far (p:=⟨gb317,1,none⟩) (Kd.R_far (p:=⟨gb317,0,none⟩) (Kd.R_types HS304.out BK317.out (by decide)) (fun _ hk => hk.2) (.int .i64 t311)) (fun _ hk => hk.2) (.int .i64 t312)) (fun _ hk => hk.2) (.slice Ao20 t313.length co20)) (fun _ h_ => h_.1))) (Kd.R_base ho0) hb));have n1_:=Aside0.mk (Kd.R_elder' (by (with_reducible repeat (first|apply Kd.R_alloc|apply Kd.R_drewN|apply Kd.R_drew));exact (Kd.R_mono (Kd.R_far (p:=⟨gb317,2,none⟩) (Kd.R_far (p:=⟨gb317,1,none⟩) (Kd.R_far (p:=⟨gb317,0,none⟩) (Kd.R_types HO315.out BK317.out (by decide)) (fun _ hk => hk.2) (.int .i64 t311)) (fun _ hk => hk.2) (.int .i64 t312)) (fun _ hk => hk.2) (.slice Ao20 t313.length co20)) (fun _ h_ => h_.1))) (Kd.R_base ho0) hb);have n2_:=Aside0.mk (Kd.R_lower (Kd.R_new' (Kd.R_new' ho0 (Kd.R_lt (by (with_reducible repeat (first|apply Kd.R_alloc|apply Kd.R_drewN|apply Kd.R_drew));exact (Kd.R_mono (Kd.R_far (p:=⟨gb317,2,none⟩) (Kd.R_far (p:=⟨gb317,1,none⟩) (Kd.R_far (p:=⟨gb317,0,none⟩) (Kd.R_types HO304.out BK317.out (by decide)) (fun _ hk => hk.2) (.int .i64 t311)) (fun _ hk => hk.2) (.int .i64 t312)) (fun _ hk => hk.2) (.slice Ao20 t313.length co20)) (fun _ h_ => h_.1))))) (Kd.R_lt (by (with_reducible repeat (first|apply Kd.R_alloc|apply Kd.R_drewN|apply Kd.R_drew));exact (Kd.R_mono (Kd.R_far (p:=⟨gb317,2,none⟩) (Kd.R_far (p:=⟨gb317,1,none⟩) (Kd.R_far (p:=⟨gb317,0,none⟩) (Kd.R_types HO315.out BK317.out (by decide)) (fun _ hk => hk.2) (.int .i64 t311)) (fun _ hk => hk.2) (.int .i64 t312)) (fun _ hk => hk.2) (.slice Ao20 t313.length co20)) (fun _ h_ => h_.1))))) (below_size (by repeat (first|(with_reducible first|exact HB.out|apply below_alloc|apply pw_below_drewN|apply below_drew1|refine below_set ?_ GE317.out)|exact HB.out))));(try have s2_HS304:=Aside0.mk (Kd.R_lower (Kd.R_new' (Kd.R_new' ho0 (Kd.R_lt (by (with_reducible repeat (first|apply Kd.R_alloc|apply Kd.R_drewN|apply Kd.R_drew));exact (Kd.R_mono (Kd.R_far (p:=⟨gb317,2,none⟩) (Kd.R_far (p:=⟨gb317,1,none⟩) (Kd.R_far (p:=⟨gb317,0,none⟩) (Kd.R_types HS304.out BK317.out (by decide)) (fun _ hk => hk.2) (.int .i64 t311)) (fun _ hk => hk.2) (.int .i64 t312)) (fun _ hk => hk.2) (.slice Ao20 t313.length co20)) (fun _ h_ => h_.1))))) (Kd.R_lt (by (with_reducible repeat (first|apply Kd.R_alloc|apply Kd.R_drewN|apply Kd.R_drew));exact (Kd.R_mono (Kd.R_far (p:=⟨gb317,2,none⟩) (Kd.R_far (p:=⟨gb317,1,none⟩) (Kd.R_far (p:=⟨gb317,0,none⟩) (Kd.R_types HO315.out BK317.out (by decide)) (fun _ hk => hk.2) (.int .i64 t311)) (fun _ hk => hk.2) (.int .i64 t312)) (fun _ hk => hk.2) (.slice Ao20 t313.length co20)) (fun _ h_ => h_.1))))) (below_size (by repeat (first|(with_reducible first|exact HB.out|apply below_alloc|apply pw_below_drewN|apply below_drew1|refine below_set ?_ GE317.out)|exact HB.out)))));have n3_:=Aside0.mk (blk_below (g:=gb317) (o:=.cells #[.int .i64 t311,.int .i64 t312,.slice Ao20 t313.length co20] 28 (0,0)) (by (with_reducible repeat (first|refine blk_drewN ?_ _|refine blk_drew ?_|refine blk_alloc ?_ _));refine blk_put (cs:=#[.int .i64 t311,.int .i64 t312,.slice none 0 0]) ?_ 2 _ rfl;(with_reducible repeat (first|refine blk_drewN ?_ _|refine blk_drew ?_|refine blk_alloc ?_ _));refine blk_put (cs:=#[.int .i64 t311,.int .i64 0,.slice none 0 0]) ?_ 1 _ rfl;(with_reducible repeat (first|refine blk_drewN ?_ _|refine blk_drew ?_|refine blk_alloc ?_ _));refine blk_put (cs:=#[.int .i64 0,.int .i64 0,.slice none 0 0]) ?_ 0 _ rfl;(with_reducible repeat (first|refine blk_drewN ?_ _|refine blk_drew ?_|refine blk_alloc ?_ _));exact BK317.out) hb);have n4_:=Aside0.mk (below_step (by repeat (first|(with_reducible first|exact HB.out|apply below_alloc|apply pw_below_drewN|apply below_drew1|refine below_set ?_ GE317.out)|exact HB.out)) hb);clear HO304;(try clear HS304);clear HO315;clear BK317;clear HB;have HO304:=n0_;(try (have HS304:=s0_HS304;clear s0_HS304));have HO315:=n1_;have HO322:=n2_;have BK317:=n3_;have HB:=n4_;clear n0_ n1_ n2_ n3_ n4_;(try clear hb);(try clear hb2);(try clear hk);(try clear hi);(try clear ho0))|((with_reducible refine gate_dst (N:=18) rfl ?_);refine box_event ?hg (N:=18) ?hd (cs:=#[.int .i64 0,.int .i64 0,.slice none 0 0]) (t:=30) ?hr ?_;(case hd => rfl);(case hg => rfl);(case hr => first|(go_simp;done)|(go_simp;rfl));intro gb324 hg w22 hbox hb;have n0_:=Aside0.mk (Kd.R_below (by (with_reducible repeat (first|apply Kd.R_alloc|apply Kd.R_drewN|apply Kd.R_drew));exact HO304.out) hb);(try have s0_HS304:=Aside0.mk (Kd.R_below (by (with_reducible repeat (first|apply Kd.R_alloc|apply Kd.R_drewN|apply Kd.R_drew));exact HS304.out) hb));have n1_:=Aside0.mk (Kd.R_below (by (with_reducible repeat (first|apply Kd.R_alloc|apply Kd.R_drewN|apply Kd.R_drew));exact HO315.out) hb);have n2_:=Aside0.mk (Kd.R_below (by (with_reducible repeat (first|apply Kd.R_alloc|apply Kd.R_drewN|apply Kd.R_drew));exact HO322.out) hb);have n3_:=Aside0.mk (blk_below (g:=gb317) (o:=.cells #[.int .i64 t311,.int .i64 t312,.slice Ao20 t313.length co20] 28 (0,0)) (by (with_reducible repeat (first|refine blk_drewN ?_ _|refine blk_drew ?_|refine blk_alloc ?_ _));exact BK317.out) hb);have n4_:=Aside0.mk (below_step (by repeat (first|(with_reducible first|exact HB.out|apply below_alloc|apply pw_below_drewN|apply below_drew1|refine below_set ?_ GE317.out)|exact HB.out)) hb);have n5_:=Aside0.mk (hbox);have n6_:=Aside0.mk ((by rw [hg];exact (below_size (by repeat (first|(with_reducible first|exact HB.out|apply below_alloc|apply pw_below_drewN|apply below_drew1|refine below_set ?_ GE317.out)|exact HB.out))) : w.heap.size ≤ gb324));have n7_:=Aside0.mk ((by rw [hg];exact (below_size (by repeat (first|(with_reducible first|exact HB.out|apply below_alloc|apply pw_below_drewN|apply below_drew1|refine below_set ?_ GE317.out)|exact HB.out))) : w.heap.size ≤ gb324));have n8_:=Aside0.mk ((by rw [hg];exact Nat.ne_of_lt (blk_lt (g:=gb317) (o:=.cells #[.int .i64 t311,.int .i64 t312,.slice Ao20 t313.length co20] 28 (0,0)) (by (with_reducible repeat (first|refine blk_drewN ?_ _|refine blk_drew ?_|refine blk_alloc ?_ _));exact BK317.out)) : gb317 ≠ gb324));have n9_:=Aside0.mk ((by rw [hg];exact Nat.ne_of_gt (blk_lt (g:=gb317) (o:=.cells #[.int .i64 t311,.int .i64 t312,.slice Ao20 t313.length co20] 28 (0,0)) (by (with_reducible repeat (first|refine blk_drewN ?_ _|refine blk_drew ?_|refine blk_alloc ?_ _));exact BK317.out)) : gb324 ≠ gb317));clear HO304;(try clear HS304);clear HO315;clear HO322;clear BK317;clear HB;have HO304:=n0_;(try (have HS304:=s0_HS304;clear s0_HS304));have HO315:=n1_;have HO322:=n2_;have BK317:=n3_;have HB:=n4_;have BK324:=n5_;have GW324:=n6_;have GE324:=n7_;have NB317_324:=n8_;have NB324_317:=n9_;clear n0_ n1_ n2_ n3_ n4_ n5_ n6_ n7_ n8_ n9_;clear hb hbox hg;have hnb23:=NB324_317.out;have hnc23:=NB317_324.out;have hcz24_0 : w22.cell? ⟨gb324,0,none⟩ = some (.int .i64 0):=(blk_cell BK324.out 0).trans rfl;have hcz24_1 : w22.cell? ⟨gb324,1,none⟩ = some (.int .i64 0):=(blk_cell BK324.out 1).trans rfl;have hcz24_2 : w22.cell? ⟨gb324,2,none⟩ = some (.slice none 0 0):=(blk_cell BK324.out 2).trans rfl;have hfz24_0:=blk_frozen BK324.out 0;have hfz24_1:=blk_frozen BK324.out 1;have hfz24_2:=blk_frozen BK324.out 2;obtain ⟨Ao25,co25,eo25⟩:=Kd.R_slice HO322.out;subst eo25))
 (try simp only [Act.put,List.setIfInBounds_toArray,List.set_cons_zero,List.set_cons_succ])
 go_cut [107] (fun v107 wc => ∃ (kq : Nat) (x107_10 : Bool),v107 = .bool x107_10 ∧ Aside0 (cofferlaw10_PageBytes.j0 kq a0 a1 t302 x107_10 = some r) ∧ Aside0 (kq ≤ k) ∧ Aside0 (Kd.R k37 37 wc w.heap.size (fun k_ => some k_ ≠ ((.slice Ao20 t313.length co20) : Value).ownBlock ∧ some k_ ≠ ((.slice Ao25 t320.length co25) : Value).ownBlock) (.slice Ao13 t302.length co13) t302) ∧ Aside0 (Kd.R k37 37 wc w.heap.size (fun k_ => some k_ ≠ ((.slice Ao13 t302.length co13) : Value).ownBlock ∧ some k_ ≠ ((.slice Ao25 t320.length co25) : Value).ownBlock) (.slice Ao20 t313.length co20) t313) ∧ Aside0 (Kd.R k37 37 wc w.heap.size (fun k_ => some k_ ≠ ((.slice Ao13 t302.length co13) : Value).ownBlock ∧ some k_ ≠ ((.slice Ao20 t313.length co20) : Value).ownBlock) (.slice Ao25 t320.length co25) t320) ∧ Aside0 (wc.heap[gb317]? = some (.cells #[.int .i64 t311,.int .i64 t312,(.slice Ao20 t313.length co20)] 28 (0,0))) ∧ Aside0 (wc.heap[gb324]? = some (.cells #[.int .i64 t318,.int .i64 t319,(.slice Ao25 t320.length co25)] 30 (0,0))) ∧ Aside0 (Below w.heap.size w wc))
 case first =>
  have H:=HC11.out
  clear HC11
  by_cases c26 : t305.toList = t309.toList
  ·rw [if_pos c26] at H
   have c26b0 : (t305.toList == t309.toList) = true:=beq_iff_eq.mpr c26
   have c26b1 : (t305.toList != t309.toList) = false:=bne_eq_false_iff_eq.mpr c26
   clear c26
   (first|rw [c26b0]|(simp only [i64_w,i32_w];rw [c26b0])|rw [c26b1]|skip)
   by_cases c27 : t306 = t310
   ·rw [if_pos c27] at H
    have c27b0 : (t306 == t310) = true:=beq_iff_eq.mpr c27
    have c27b1 : (t306 != t310) = false:=bne_eq_false_iff_eq.mpr c27
    clear c27
    by_cases c28 : t307.toList = t309.toList
    ·rw [if_pos c28] at H
     have c28b0 : (t307.toList == t309.toList) = true:=beq_iff_eq.mpr c28
     have c28b1 : (t307.toList != t309.toList) = false:=bne_eq_false_iff_eq.mpr c28
     clear c28
     by_cases c29 : t308 = t310
     ·rw [if_pos c29] at H
      have c29b0 : (t308 == t310) = true:=beq_iff_eq.mpr c29
      have c29b1 : (t308 != t310) = false:=bne_eq_false_iff_eq.mpr c29
      clear c29
      replace H:=Option.bind_eq_some_iff.mp H
      obtain ⟨t325,A300,H⟩:=H
      replace H : (if t325 = true then (if t316 = t323 then (if t311 = t318 then (if t312 = t319 then ((cofferlaw10_same.f k t313 t320).bind fun t326 => (cofferlaw10_PageBytes.j0 k a0 a1 t302 (!t326))) else (cofferlaw10_PageBytes.j0 k a0 a1 t302 true)) else (cofferlaw10_PageBytes.j0 k a0 a1 t302 true)) else (cofferlaw10_PageBytes.j0 k a0 a1 t302 true)) else (cofferlaw10_PageBytes.j0 k a0 a1 t302 true)) = some r:=H
      have A30:=Aside0.mk A300
      clear A300
      by_cases c31 : t325 = true
      ·subst c31
       have H1 : (if t316 = t323 then (if t311 = t318 then (if t312 = t319 then ((cofferlaw10_same.f k t313 t320).bind fun t326 => (cofferlaw10_PageBytes.j0 k a0 a1 t302 (!t326))) else (cofferlaw10_PageBytes.j0 k a0 a1 t302 true)) else (cofferlaw10_PageBytes.j0 k a0 a1 t302 true)) else (cofferlaw10_PageBytes.j0 k a0 a1 t302 true)) = some r:=by rw [if_pos rfl] at H;exact H
       clear H
       have H:=H1
       clear H1
       by_cases c32 : t316 = t323
       ·rw [if_pos c32] at H
        have c32b0 : (t316 == t323) = true:=beq_iff_eq.mpr c32
        have c32b1 : (t316 != t323) = false:=bne_eq_false_iff_eq.mpr c32
        clear c32
        by_cases c33 : t311 = t318
        ·rw [if_pos c33] at H
         have c33b0 : (t311 == t318) = true:=beq_iff_eq.mpr c33
         have c33b1 : (t311 != t318) = false:=bne_eq_false_iff_eq.mpr c33
         clear c33
         by_cases c34 : t312 = t319
         ·rw [if_pos c34] at H
          have c34b0 : (t312 == t319) = true:=beq_iff_eq.mpr c34
          have c34b1 : (t312 != t319) = false:=bne_eq_false_iff_eq.mpr c34
          clear c34
          replace H:=Option.bind_eq_some_iff.mp H
          obtain ⟨t326,A350,H⟩:=H
          replace H : (cofferlaw10_PageBytes.j0 k a0 a1 t302 (!t326)) = some r:=H
          have A35:=Aside0.mk A350
          clear A350
          have H':=Aside0.mk H
          clear H
          go_wp2_with (first|(go_at_call 14;(with_reducible refine (cofferlaw10_keptS.calls k _ _ t302 _ _ l2 true _ ?side1 ?side2 ?side3 ?side4 ?sideF ?sideG A30.out).mono ?_);(case sideF => refine (Kd.R_reads' (e:=37) (base:=w.heap.size) (ok:=fun k_ => ((True ∧ some k_ ≠ (.slice Ao20 t313.length co20 : Value).ownBlock) ∧ some k_ ≠ (.slice Ao25 t320.length co25 : Value).ownBlock)) (n:=(t302 ++ [MARK]).length) (c:=co13) ?_).2.2;exact (by (with_reducible repeat (first|apply Kd.R_alloc|apply Kd.R_drewN|apply Kd.R_drew));exact (Kd.R_mono (Kd.R_far (p:=⟨gb324,2,none⟩) (Kd.R_far (p:=⟨gb324,1,none⟩) (Kd.R_far (p:=⟨gb324,0,none⟩) (Kd.R_types HS304.out BK324.out (by decide)) (fun _ hk => hk.2) (.int .i64 t318)) (fun _ hk => hk.2) (.int .i64 t319)) (fun _ hk => hk.2) (.slice Ao25 t320.length co25)) (fun _ h_ => h_.1))));(case sideG => exact (Kd.R_reads' HS304.out).2.1);(case side1 => refine (Kd.R_reads' (e:=37) (base:=w.heap.size) (ok:=fun k_ => ((True ∧ some k_ ≠ (.slice Ao20 t313.length co20 : Value).ownBlock) ∧ some k_ ≠ (.slice Ao25 t320.length co25 : Value).ownBlock)) (n:=t302.length) (c:=co13) ?_).2.2;exact (by (with_reducible repeat (first|apply Kd.R_alloc|apply Kd.R_drewN|apply Kd.R_drew));exact (Kd.R_mono (Kd.R_far (p:=⟨gb324,2,none⟩) (Kd.R_far (p:=⟨gb324,1,none⟩) (Kd.R_far (p:=⟨gb324,0,none⟩) (Kd.R_types HO304.out BK324.out (by decide)) (fun _ hk => hk.2) (.int .i64 t318)) (fun _ hk => hk.2) (.int .i64 t319)) (fun _ hk => hk.2) (.slice Ao25 t320.length co25)) (fun _ h_ => h_.1))));(case side2 => exact (Kd.R_reads' HO304.out).2.1);(case side3 => exact Kd.C_below HR2.out (by repeat (first|(with_reducible first|exact HB.out|apply below_alloc|apply pw_below_drewN|apply below_drew1|refine below_set ?_ GE317.out|refine below_set ?_ GE324.out)|exact HB.out)));(case side4 => exact HC2.out);rintro e w' ⟨rfl,⟨nd,rfl⟩⟩;have hnb36:=NB317_324.out;have hnc36:=NB324_317.out;have hcz37_0 : w22.cell? ⟨gb317,0,none⟩ = some (.int .i64 t311):=(blk_cell BK317.out 0).trans rfl;have hcz37_1 : w22.cell? ⟨gb317,1,none⟩ = some (.int .i64 t312):=(blk_cell BK317.out 1).trans rfl;have hcz37_2 : w22.cell? ⟨gb317,2,none⟩ = some (.slice Ao20 t313.length co20):=(blk_cell BK317.out 2).trans rfl;have hfz37_0:=blk_frozen BK317.out 0;have hfz37_1:=blk_frozen BK317.out 1;have hfz37_2:=blk_frozen BK317.out 2;have hcz38_0 : w22.cell? ⟨gb324,0,none⟩ = some (.int .i64 0):=(blk_cell BK324.out 0).trans rfl;have hcz38_1 : w22.cell? ⟨gb324,1,none⟩ = some (.int .i64 0):=(blk_cell BK324.out 1).trans rfl;have hcz38_2 : w22.cell? ⟨gb324,2,none⟩ = some (.slice none 0 0):=(blk_cell BK324.out 2).trans rfl;have hfz38_0:=blk_frozen BK324.out 0;have hfz38_1:=blk_frozen BK324.out 1;have hfz38_2:=blk_frozen BK324.out 2)|(go_at_call 15;(with_reducible refine (cofferlaw10_same.calls k _ _ t313 _ _ t320 t326 _ ?side1 ?side2 ?side3 ?side4 A35.out).mono ?_);(case side1 => refine (Kd.R_reads' (e:=37) (base:=w.heap.size) (ok:=fun k_ => ((True ∧ some k_ ≠ (.slice Ao13 t302.length co13 : Value).ownBlock) ∧ some k_ ≠ (.slice Ao25 t320.length co25 : Value).ownBlock)) (n:=t313.length) (c:=co20) ?_).2.2;exact (by (with_reducible repeat (first|apply Kd.R_alloc|apply Kd.R_drewN|apply Kd.R_drew));exact (Kd.R_mono (Kd.R_far (p:=⟨gb324,2,none⟩) (Kd.R_far (p:=⟨gb324,1,none⟩) (Kd.R_far (p:=⟨gb324,0,none⟩) (Kd.R_types HO315.out BK324.out (by decide)) (fun _ hk => hk.2) (.int .i64 t318)) (fun _ hk => hk.2) (.int .i64 t319)) (fun _ hk => hk.2) (.slice Ao25 t320.length co25)) (fun _ h_ => h_.1))));(case side2 => exact (Kd.R_reads' HO315.out).2.1);(case side3 => refine (Kd.R_reads' (e:=37) (base:=w.heap.size) (ok:=fun k_ => ((True ∧ some k_ ≠ (.slice Ao13 t302.length co13 : Value).ownBlock) ∧ some k_ ≠ (.slice Ao20 t313.length co20 : Value).ownBlock)) (n:=t320.length) (c:=co25) ?_).2.2;exact (by (with_reducible repeat (first|apply Kd.R_alloc|apply Kd.R_drewN|apply Kd.R_drew));exact (Kd.R_mono (Kd.R_far (p:=⟨gb324,2,none⟩) (Kd.R_far (p:=⟨gb324,1,none⟩) (Kd.R_far (p:=⟨gb324,0,none⟩) (Kd.R_types HO322.out BK324.out (by decide)) (fun _ hk => hk.2) (.int .i64 t318)) (fun _ hk => hk.2) (.int .i64 t319)) (fun _ hk => hk.2) (.slice Ao25 t320.length co25)) (fun _ h_ => h_.1))));(case side4 => exact (Kd.R_reads' HO322.out).2.1);rintro e w' ⟨rfl,⟨nd,rfl⟩⟩))
          go_meet
          case rel => exact ⟨_,(!t326),(by first|rfl|(simp;done)|(simp [Go.Proofs.Ytffgodpmmipnkaa.Z.bne_nil,Go.Proofs.Ytffgodpmmipnkaa.Z.beq_nil];done)|(simp [*];done)),H',⟨by first|omega|exact Nat.le_refl _⟩,⟨by (with_reducible repeat (first|apply Kd.R_alloc|apply Kd.R_drewN|apply Kd.R_drew));exact Kd.R_mono (Kd.R_far (p:=⟨gb324,2,none⟩) (Kd.R_far (p:=⟨gb324,1,none⟩) (Kd.R_far (p:=⟨gb324,0,none⟩) (Kd.R_types HO304.out BK324.out (by decide)) (fun _ hk => hk.2) (.int .i64 t318)) (fun _ hk => hk.2) (.int .i64 t319)) (fun _ hk => hk.2) (.slice Ao25 t320.length co25)) (fun _ hk => ⟨hk.1.1.2,hk.1.2⟩)⟩,⟨by (with_reducible repeat (first|apply Kd.R_alloc|apply Kd.R_drewN|apply Kd.R_drew));exact Kd.R_mono (Kd.R_far (p:=⟨gb324,2,none⟩) (Kd.R_far (p:=⟨gb324,1,none⟩) (Kd.R_far (p:=⟨gb324,0,none⟩) (Kd.R_types HO315.out BK324.out (by decide)) (fun _ hk => hk.2) (.int .i64 t318)) (fun _ hk => hk.2) (.int .i64 t319)) (fun _ hk => hk.2) (.slice Ao25 t320.length co25)) (fun _ hk => ⟨hk.1.1.2,hk.1.2⟩)⟩,⟨by (with_reducible repeat (first|apply Kd.R_alloc|apply Kd.R_drewN|apply Kd.R_drew));exact Kd.R_mono (Kd.R_far (p:=⟨gb324,2,none⟩) (Kd.R_far (p:=⟨gb324,1,none⟩) (Kd.R_far (p:=⟨gb324,0,none⟩) (Kd.R_types HO322.out BK324.out (by decide)) (fun _ hk => hk.2) (.int .i64 t318)) (fun _ hk => hk.2) (.int .i64 t319)) (fun _ hk => hk.2) (.slice Ao25 t320.length co25)) (fun _ hk => ⟨hk.1.1.2,hk.1.2⟩)⟩,⟨by (with_reducible repeat (first|refine blk_drewN ?_ _|refine blk_drew ?_|refine blk_alloc ?_ _));refine blk_far ?_ NB317_324.out _;(with_reducible repeat (first|refine blk_drewN ?_ _|refine blk_drew ?_|refine blk_alloc ?_ _));refine blk_far ?_ NB317_324.out _;(with_reducible repeat (first|refine blk_drewN ?_ _|refine blk_drew ?_|refine blk_alloc ?_ _));refine blk_far ?_ NB317_324.out _;(with_reducible repeat (first|refine blk_drewN ?_ _|refine blk_drew ?_|refine blk_alloc ?_ _));exact BK317.out⟩,⟨by (with_reducible repeat (first|refine blk_drewN ?_ _|refine blk_drew ?_|refine blk_alloc ?_ _));refine blk_put (cs:=#[.int .i64 t318,.int .i64 t319,.slice none 0 0]) ?_ 2 _ rfl;(with_reducible repeat (first|refine blk_drewN ?_ _|refine blk_drew ?_|refine blk_alloc ?_ _));refine blk_put (cs:=#[.int .i64 t318,.int .i64 0,.slice none 0 0]) ?_ 1 _ rfl;(with_reducible repeat (first|refine blk_drewN ?_ _|refine blk_drew ?_|refine blk_alloc ?_ _));refine blk_put (cs:=#[.int .i64 0,.int .i64 0,.slice none 0 0]) ?_ 0 _ rfl;(with_reducible repeat (first|refine blk_drewN ?_ _|refine blk_drew ?_|refine blk_alloc ?_ _));exact BK324.out⟩,⟨by repeat (first|(with_reducible first|exact HB.out|apply below_alloc|apply pw_below_drewN|apply below_drew1|refine below_set ?_ GE317.out|refine below_set ?_ GE324.out)|exact HB.out)⟩⟩
         ·rw [if_neg c34] at H
          have c34b0 : (t312 == t319) = false:=beq_eq_false_iff_ne.mpr c34
          have c34b1 : (t312 != t319) = true:=bne_iff_ne.mpr c34
          exact absurd H (by simp [cofferlaw10_PageBytes.j0_true])
        ·rw [if_neg c33] at H
         have c33b0 : (t311 == t318) = false:=beq_eq_false_iff_ne.mpr c33
         have c33b1 : (t311 != t318) = true:=bne_iff_ne.mpr c33
         exact absurd H (by simp [cofferlaw10_PageBytes.j0_true])
       ·rw [if_neg c32] at H
        have c32b0 : (t316 == t323) = false:=beq_eq_false_iff_ne.mpr c32
        have c32b1 : (t316 != t323) = true:=bne_iff_ne.mpr c32
        exact absurd H (by simp [cofferlaw10_PageBytes.j0_true])
      ·replace c31:=Bool.eq_false_iff.mpr c31
       subst c31
       have H1 : (cofferlaw10_PageBytes.j0 k a0 a1 t302 true) = some r:=by rw [if_neg (show ¬ (false = true) by decide)] at H;exact H
       clear H
       have H:=H1
       clear H1
       exact absurd H (by simp [cofferlaw10_PageBytes.j0_true])
     ·rw [if_neg c29] at H
      have c29b0 : (t308 == t310) = false:=beq_eq_false_iff_ne.mpr c29
      have c29b1 : (t308 != t310) = true:=bne_iff_ne.mpr c29
      exact absurd H (by simp [cofferlaw10_PageBytes.j0_true])
    ·rw [if_neg c28] at H
     have c28b0 : (t307.toList == t309.toList) = false:=beq_eq_false_iff_ne.mpr c28
     have c28b1 : (t307.toList != t309.toList) = true:=bne_iff_ne.mpr c28
     exact absurd H (by simp [cofferlaw10_PageBytes.j0_true])
   ·rw [if_neg c27] at H
    have c27b0 : (t306 == t310) = false:=beq_eq_false_iff_ne.mpr c27
    have c27b1 : (t306 != t310) = true:=bne_iff_ne.mpr c27
    exact absurd H (by simp [cofferlaw10_PageBytes.j0_true])
  ·rw [if_neg c26] at H
   have c26b0 : (t305.toList == t309.toList) = false:=beq_eq_false_iff_ne.mpr c26
   have c26b1 : (t305.toList != t309.toList) = true:=bne_iff_ne.mpr c26
   (first|rw [c26b0]|(simp only [i64_w,i32_w];rw [c26b0])|rw [c26b1]|skip)
   exact absurd H (by simp [cofferlaw10_PageBytes.j0_true])
 case rest =>
  clear HC11
  try clear c1
  try clear c2
  try clear p2
  try clear c3
  try clear c4
  try clear c9
  try clear c10
  try clear c11
  try clear c12
  try clear c13
  try clear c23
  try clear c26
  try clear c26b0
  try clear c26b1
  try clear c27
  try clear c27b0
  try clear c27b1
  try clear c28
  try clear c28b0
  try clear c28b1
  try clear c29
  try clear c29b0
  try clear c29b1
  try clear c31
  try clear c32
  try clear c32b0
  try clear c32b1
  try clear c33
  try clear c33b0
  try clear c33b1
  try clear c34
  try clear c34b0
  try clear c34b1
  try clear c36
  try clear c39
  try clear c42
  try clear hcz19_0
  try clear hcz19_1
  try clear hcz19_2
  try clear hcz24_0
  try clear hcz24_1
  try clear hcz24_2
  try clear hcz37_0
  try clear hcz37_1
  try clear hcz37_2
  try clear hcz38_0
  try clear hcz38_1
  try clear hcz38_2
  try clear hcz40_0
  try clear hcz40_1
  try clear hcz40_2
  try clear hcz41_0
  try clear hcz41_1
  try clear hcz41_2
  try clear hcz43_0
  try clear hcz43_1
  try clear hcz43_2
  try clear hcz44_0
  try clear hcz44_1
  try clear hcz44_2
  try clear hfz19_0
  try clear hfz19_1
  try clear hfz19_2
  try clear hfz24_0
  try clear hfz24_1
  try clear hfz24_2
  try clear hfz37_0
  try clear hfz37_1
  try clear hfz37_2
  try clear hfz38_0
  try clear hfz38_1
  try clear hfz38_2
  try clear hfz40_0
  try clear hfz40_1
  try clear hfz40_2
  try clear hfz41_0
  try clear hfz41_1
  try clear hfz41_2
  try clear hfz43_0
  try clear hfz43_1
  try clear hfz43_2
  try clear hfz44_0
  try clear hfz44_1
  try clear hfz44_2
  obtain ⟨kq,x107_10,rfl,HA,HJ10,HO_9,HO_318002,HO_325002,BK317,BK324,HB⟩:=hcut
  cases kq with
  | zero => exact absurd HA.out (by simp [cofferlaw10_PageBytes.j0])
  | succ kj10 =>
   have H:=HA.out
   clear HA
   simp only [cofferlaw10_PageBytes.j0] at H
   by_cases c45 : x107_10 = true
   ·subst c45
    have H1 : (none) = some r:=by rw [if_pos rfl] at H;exact H
    clear H
    have H:=H1
    clear H1
    exact absurd H (by simp)
   ·replace c45:=Bool.eq_false_iff.mpr c45
    subst c45
    have H1 : (cofferlaw10_PageBytes.l0 kj10 a0 a1 t302 0) = some r:=by rw [if_neg (show ¬ (false = true) by decide)] at H;exact H
    clear H
    have H:=H1
    clear H1
    have H':=Aside0.mk H
    clear H
    go_wp2
    go_loopg [20] kj10 (fun kq v20 w' => ∃ (x9_2 : List (S37)) (x20_2 : Int),v20 = .int .i64 x20_2 ∧ Aside0 (cofferlaw10_PageBytes.l0 kq a0 a1 x9_2 x20_2 = some r) ∧ Aside0 (kq ≤ kj10) ∧ Aside0 (Kd.R k37 37 w' w.heap.size (fun k_ => some k_ ≠ ((.slice Ao20 t313.length co20) : Value).ownBlock ∧ some k_ ≠ ((.slice Ao25 t320.length co25) : Value).ownBlock) (.slice Ao13 t302.length co13) x9_2) ∧ Aside0 (Kd.R k37 37 w' w.heap.size (fun k_ => some k_ ≠ ((.slice Ao13 t302.length co13) : Value).ownBlock ∧ some k_ ≠ ((.slice Ao25 t320.length co25) : Value).ownBlock) (.slice Ao20 t313.length co20) t313) ∧ Aside0 (Kd.R k37 37 w' w.heap.size (fun k_ => some k_ ≠ ((.slice Ao13 t302.length co13) : Value).ownBlock ∧ some k_ ≠ ((.slice Ao20 t313.length co20) : Value).ownBlock) (.slice Ao25 t320.length co25) t320) ∧ Aside0 (w'.heap[gb317]? = some (.cells #[.int .i64 t311,.int .i64 t312,(.slice Ao20 t313.length co20)] 28 (0,0))) ∧ Aside0 (w'.heap[gb324]? = some (.cells #[.int .i64 t318,.int .i64 t319,(.slice Ao25 t320.length co25)] 30 (0,0))) ∧ Aside0 (Below w.heap.size w w'))
    case atStart => exact ⟨(t302),(0),(by first|rfl|(simp;done)|(simp [Go.Proofs.Ytffgodpmmipnkaa.Z.bne_nil,Go.Proofs.Ytffgodpmmipnkaa.Z.beq_nil];done)|(simp [*];done)),H',⟨Nat.le_refl _⟩,⟨by (with_reducible repeat (first|apply Kd.R_alloc|apply Kd.R_drewN|apply Kd.R_drew));exact HO_9.out⟩,⟨by (with_reducible repeat (first|apply Kd.R_alloc|apply Kd.R_drewN|apply Kd.R_drew));exact HO_318002.out⟩,⟨by (with_reducible repeat (first|apply Kd.R_alloc|apply Kd.R_drewN|apply Kd.R_drew));exact HO_325002.out⟩,⟨by (with_reducible repeat (first|refine blk_drewN ?_ _|refine blk_drew ?_|refine blk_alloc ?_ _));exact BK317.out⟩,⟨by (with_reducible repeat (first|refine blk_drewN ?_ _|refine blk_drew ?_|refine blk_alloc ?_ _));exact BK324.out⟩,⟨by repeat (first|(with_reducible first|exact HB.out|apply below_alloc|apply pw_below_drewN|apply below_drew1|refine below_set ?_ GE317.out|refine below_set ?_ GE324.out)|exact HB.out)⟩⟩
    case round =>
     clear H'
     try clear c1
     try clear c2
     try clear p2
     try clear c3
     try clear c4
     try clear c9
     try clear c10
     try clear c11
     try clear c12
     try clear c13
     try clear c23
     try clear c26
     try clear c26b0
     try clear c26b1
     try clear c27
     try clear c27b0
     try clear c27b1
     try clear c28
     try clear c28b0
     try clear c28b1
     try clear c29
     try clear c29b0
     try clear c29b1
     try clear c31
     try clear c32
     try clear c32b0
     try clear c32b1
     try clear c33
     try clear c33b0
     try clear c33b1
     try clear c34
     try clear c34b0
     try clear c34b1
     try clear c36
     try clear c39
     try clear c42
     try clear c45
     try clear hcz19_0
     try clear hcz19_1
     try clear hcz19_2
     try clear hcz24_0
     try clear hcz24_1
     try clear hcz24_2
     try clear hcz37_0
     try clear hcz37_1
     try clear hcz37_2
     try clear hcz38_0
     try clear hcz38_1
     try clear hcz38_2
     try clear hcz40_0
     try clear hcz40_1
     try clear hcz40_2
     try clear hcz41_0
     try clear hcz41_1
     try clear hcz41_2
     try clear hcz43_0
     try clear hcz43_1
     try clear hcz43_2
     try clear hcz44_0
     try clear hcz44_1
     try clear hcz44_2
     try clear hfz19_0
     try clear hfz19_1
     try clear hfz19_2
     try clear hfz24_0
     try clear hfz24_1
     try clear hfz24_2
     try clear hfz37_0
     try clear hfz37_1
     try clear hfz37_2
     try clear hfz38_0
     try clear hfz38_1
     try clear hfz38_2
     try clear hfz40_0
     try clear hfz40_1
     try clear hfz40_2
     try clear hfz41_0
     try clear hfz41_1
     try clear hfz41_2
     try clear hfz43_0
     try clear hfz43_1
     try clear hfz43_2
     try clear hfz44_0
     try clear hfz44_1
     try clear hfz44_2
     try clear p2
     obtain ⟨x9_2,x20_2,rfl,HA,HK2,HO_9,HO_318002,HO_325002,BK317,BK324,HB⟩:=hrel
     have hl9_2:=(Kd.R_reads' HO_9.out).1
     rw [hl9_2] at HO_9
     (try simp only [hl9_2])
     (try simp only [hl9_2] at BK317)
     (try simp only [hl9_2] at BK324)
     (try simp only [hl9_2] at HO_318002)
     (try simp only [hl9_2] at HO_325002)
     cases gk with
     | zero => exact absurd HA.out (by simp [cofferlaw10_PageBytes.l0])
     | succ k2 =>
      have H:=HA.out
      clear HA
      simp only [cofferlaw10_PageBytes.l0] at H
      by_cases c46 : x20_2 < (x9_2.length : Int)
      ·rw [if_pos c46] at H
       have c46b0 : decide (x20_2 < (x9_2.length : Int)) = true:=decide_eq_true c46
       clear c46
       by_cases c47 : 0 ≤ x20_2
       ·rw [if_pos c47] at H
        have c47b0 : decide (0 ≤ x20_2) = true:=decide_eq_true c47
        clear c47
        by_cases c48 : ((rd_T37 x9_2 x20_2).f1).size + 1 ≤ 9223372036854775807
        ·rw [if_pos c48] at H
         have c48b0:=eq_true c48
         have c48b1 : decide (((rd_T37 x9_2 x20_2).f1).size + 1 ≤ 9223372036854775807) = true:=decide_eq_true c48
         try have c48b2 : (9223372036854775807 < ((rd_T37 x9_2 x20_2).f1).size + 1) = False:=eq_false (Nat.not_lt.2 c48)
         obtain ⟨y328,hy328⟩ : ∃ y_ : List (S37),y_ = (x9_2.set (x20_2 : Int).toNat (⟨(rd_T37 x9_2 x20_2).f0,((rd_T37 x9_2 x20_2).f1) ++ (⟨#[120]⟩ : ByteArray)⟩ : S37)):=⟨_,rfl⟩
         replace H : (cofferlaw10_PageBytes.l0 k2 a0 a1 y328 (wrap64 (x20_2 + 1))) = some r:=by first|(rw [hy328];with_reducible exact H)|(have H2_:=(Option.bind_some _ _).symm.trans H;rw [hy328];with_reducible exact H2_)|(have H2_:=(Option.bind_some _ _).symm.trans H;with_reducible exact H2_)|with_reducible exact H|(rw [hy328];exact H)|exact H
         have Ny328:=Aside0.mk hy328
         clear hy328
         have H':=Aside0.mk H
         clear H
         have p327 : 0 ≤ (x20_2 : Int):=of_decide_eq_true (by first|(with_reducible assumption)|assumption)
         have q327 : x20_2 < (x9_2.length : Int):=of_decide_eq_true (by first|(with_reducible assumption)|assumption)
         obtain ⟨ad327,e327,hx327_0,hx327_1⟩:=at_T37 (Kd.R_reads' HO_9.out).2.2 x20_2 p327 q327
         cases e327
         replace p327:=eq_true p327
         replace q327:=eq_true q327
         have p49 : 0 ≤ (x20_2 : Int):=of_decide_eq_true (by first|(with_reducible assumption)|assumption)
         have q49 : (x20_2 : Int) < ((x9_2.length : Int) : Int):=of_decide_eq_true (by first|(with_reducible assumption)|assumption)
         obtain ⟨go49,co49,eo49,gb49,gl49,cl49,HG49⟩:=Kd.R_form HO_9.out (by omega)
         (first|cases eo49|(injection eo49 with ea_ en_ ec_;(first|subst ea_|(injection ea_ with ea_;subst ea_));subst ec_;clear en_))
         have GB49:=Aside0.mk gb49
         have GG49:=Aside0.mk HG49
         clear gb49 gl49 HG49
         (first|simp only [add_plain] at hx327_0|skip)
         (first|simp only [add_plain] at hx327_1|skip)
         obtain ⟨ce49,hcl49,hM49,hcc49,hfr49⟩:=Kd.R_elem HO_9.out z37 (x20_2 : Int) p49 q49
         obtain rfl:=k37_openM hM49
         have hx49_0 : wr.cell? ⟨go49,(x20_2 : Int).toNat * 2,none⟩ = some (.string ((rd_T37 x9_2 x20_2).f0)):=hcc49 0 _ rfl
         have hx49_1 : wr.cell? ⟨go49,(x20_2 : Int).toNat * 2 + 1,none⟩ = some (.string ((rd_T37 x9_2 x20_2).f1)):=hcc49 1 _ rfl
         have hf49_0 : wr.frozen? ⟨go49,(x20_2 : Int).toNat * 2,none⟩ = false:=hfr49 0
         have hf49_1 : wr.frozen? ⟨go49,(x20_2 : Int).toNat * 2 + 1,none⟩ = false:=hfr49 1
         clear hcl49 hcc49 hfr49 hM49
         replace p49:=eq_true p49
         replace q49:=eq_true q49
         have HX50:=Aside0.mk (show Kd.R k37 37 wr w.heap.size (fun k_ => some k_ ≠ (.slice Ao20 t313.length co20 : Value).ownBlock ∧ some k_ ≠ (.slice Ao25 t320.length co25 : Value).ownBlock) (.slice (some ⟨go49,0,none⟩) x9_2.length co13) x9_2 from (by (with_reducible repeat (first|apply Kd.R_alloc|apply Kd.R_drewN|apply Kd.R_drew));exact HO_9.out))
         obtain ⟨ce50,hcl50,hM50,hcc50,hfr50⟩:=Kd.R_elem HX50.out z37 (x20_2 : Int) (of_decide_eq_true (by first|(with_reducible assumption)|assumption)) (by have h_ : (x20_2 : Int) < ((x9_2.length : Int) : Int):=of_decide_eq_true (by first|(with_reducible assumption)|assumption);first|exact h_|(have e_:=(Kd.R_reads' HO_9.out).1;omega)|simpa using h_)
         obtain rfl:=k37_openM hM50
         have HP50:=Kd.R_seg HX50.out (x20_2 : Int) (of_decide_eq_true (by first|(with_reducible assumption)|assumption)) (by have h_ : (x20_2 : Int) < ((x9_2.length : Int) : Int):=of_decide_eq_true (by first|(with_reducible assumption)|assumption);first|exact h_|(have e_:=(Kd.R_reads' HO_9.out).1;omega)|simpa using h_) (seg:=[.string (((rd_T37 x9_2 x20_2).f1) ++ (⟨#[120]⟩ : ByteArray))]) (j:=1) hcl50 hcc50 (show 2 ≤ 2 from by decide) (x':=(⟨(rd_T37 x9_2 x20_2).f0,((rd_T37 x9_2 x20_2).f1) ++ (⟨#[120]⟩ : ByteArray)⟩ : S37)) (k37_mkM _ _ _ (⟨(rd_T37 x9_2 x20_2).f0,((rd_T37 x9_2 x20_2).f1) ++ (⟨#[120]⟩ : ByteArray)⟩ : S37) ) (fun _ hk => hk)
         have hx50_1:=hcc50 1 _ rfl
         (try simp only [show (k37).sz = 2 from rfl,Nat.mul_one,Nat.add_zero] at hx50_1)
         have hf50_1:=hfr50 1
         (try simp only [show (k37).sz = 2 from rfl,Nat.mul_one,Nat.add_zero] at hf50_1)
         clear hcl50 hcc50 hfr50 hM50
         go_wp2_with (first|((with_reducible refine gate_store (t:=9) (p:=123) rfl ?_);refine store_event (t:=9) (p:=123) (v:=?vo_w51) (w1:=(wr.setCell ⟨go49,(x20_2 : Int).toNat * 2 + 1,none⟩ (.string (((rd_T37 x9_2 x20_2).f1) ++ (⟨#[120]⟩ : ByteArray))))) ?hg ?ho ?hn ?hr ?_;(case ho => rfl);(case hg => rfl);(case hn => rfl);(case hr => first|(go_simp;done)|(go_simp;rfl));intro w51 hw;have hg : wr.grownBy w51 (some go49):=(by rw [hw];exact HP50.2);have hp_ : Kd.R k37 37 w51 w.heap.size (fun k_ => some k_ ≠ (.slice Ao20 t313.length co20 : Value).ownBlock ∧ some k_ ≠ (.slice Ao25 t320.length co25 : Value).ownBlock) (.slice (some ⟨go49,0,none⟩) x9_2.length co13) y328:=(by rw [hw,Ny328.out];exact HP50.1);clear HP50;have n0_:=Aside0.mk (hp_);have n1_:=Aside0.mk (Kd.R_after (v:=(.slice (some ⟨go49,0,none⟩) x9_2.length co13)) (v1:=(.slice (some ⟨go49,0,none⟩) x9_2.length co13)) (ok:=(fun k_ => some k_ ≠ (.slice Ao25 t320.length co25 : Value).ownBlock)) (by (with_reducible repeat (first|apply Kd.R_alloc|apply Kd.R_drewN|apply Kd.R_drew));exact Kd.R_mono HO_318002.out (fun _ hk => ⟨hk.2,hk.1⟩)) hg (.inl rfl));have n2_:=Aside0.mk (Kd.R_after (v:=(.slice (some ⟨go49,0,none⟩) x9_2.length co13)) (v1:=(.slice (some ⟨go49,0,none⟩) x9_2.length co13)) (ok:=(fun k_ => some k_ ≠ (.slice Ao20 t313.length co20 : Value).ownBlock)) (by (with_reducible repeat (first|apply Kd.R_alloc|apply Kd.R_drewN|apply Kd.R_drew));exact Kd.R_mono HO_325002.out (fun _ hk => ⟨hk.2,hk.1⟩)) hg (.inl rfl));have n3_:=Aside0.mk (blk_grown (g:=gb317) (o:=.cells #[.int .i64 t311,.int .i64 t312,.slice Ao20 t313.length co20] 28 (0,0)) (by (with_reducible repeat (first|refine blk_drewN ?_ _|refine blk_drew ?_|refine blk_alloc ?_ _));exact BK317.out) hg (Kd.R_ne HO_9.out BK317.out (by decide)));have n4_:=Aside0.mk (blk_grown (g:=gb324) (o:=.cells #[.int .i64 t318,.int .i64 t319,.slice Ao25 t320.length co25] 30 (0,0)) (by (with_reducible repeat (first|refine blk_drewN ?_ _|refine blk_drew ?_|refine blk_alloc ?_ _));exact BK324.out) hg (Kd.R_ne HO_9.out BK324.out (by decide)));have n5_:=Aside0.mk ((by rw [hw];exact below_set (HB.out) GB49.out : Below w.heap.size w w51));clear HO_9;clear HO_318002;clear HO_325002;clear BK317;clear BK324;clear HB;have HO_9:=n0_;have HO_318002:=n1_;have HO_325002:=n2_;have BK317:=n3_;have BK324:=n4_;have HB:=n5_;clear n0_ n1_ n2_ n3_ n4_ n5_;clear hg hw hp_))
         (try simp only [← hl9_2])
         go_roundg k2
         case measure => have:=HJ10.out;have:=HK2.out;omega
         case rel => exact ⟨(y328),(wrap64 (x20_2 + 1)),(by first|rfl|(simp;done)|(simp [Go.Proofs.Ytffgodpmmipnkaa.Z.bne_nil,Go.Proofs.Ytffgodpmmipnkaa.Z.beq_nil];done)|(simp [*];done)),H',⟨by have:=HJ10.out;have:=HK2.out;omega⟩,⟨by (try simp only [hl9_2]);(with_reducible repeat (first|apply Kd.R_alloc|apply Kd.R_drewN|apply Kd.R_drew));exact HO_9.out⟩,⟨by (try simp only [hl9_2]);(with_reducible repeat (first|apply Kd.R_alloc|apply Kd.R_drewN|apply Kd.R_drew));exact Kd.R_mono HO_318002.out (fun _ hk => ⟨hk.2,hk.1⟩)⟩,⟨by (try simp only [hl9_2]);(with_reducible repeat (first|apply Kd.R_alloc|apply Kd.R_drewN|apply Kd.R_drew));exact Kd.R_mono HO_325002.out (fun _ hk => ⟨hk.2,hk.1⟩)⟩,⟨by (try simp only [hl9_2]);(with_reducible repeat (first|refine blk_drewN ?_ _|refine blk_drew ?_|refine blk_alloc ?_ _));exact BK317.out⟩,⟨by (try simp only [hl9_2]);(with_reducible repeat (first|refine blk_drewN ?_ _|refine blk_drew ?_|refine blk_alloc ?_ _));exact BK324.out⟩,⟨by repeat (first|(with_reducible first|exact HB.out|apply below_alloc|apply pw_below_drewN|apply below_drew1|refine below_set ?_ GE317.out|refine below_set ?_ GE324.out)|exact HB.out)⟩⟩
        ·rw [if_neg c48] at H
         exact absurd H (by simp)
       ·rw [if_neg c47] at H
        exact absurd H (by simp)
      ·rw [if_neg c46] at H
       have c46b0 : decide (x20_2 < (x9_2.length : Int)) = false:=decide_eq_false c46
       clear c46
       replace H:=Option.bind_eq_some_iff.mp H
       obtain ⟨⟨t329,t330⟩,A520,H⟩:=H
       replace H : ((cofferref10_Write.f k2 a0 a1 x9_2).bind fun bt331 => (if t329.toList = bt331.1.toList then (if t330 = bt331.2 then ((page_Size.f k2 x9_2).bind fun t333 => ((cofferref10_Size.f k2 x9_2).bind fun t334 => (if t333 = t334 then ((cofferlaw10_first.f k2).bind fun t335 => (some t335)) else (none)))) else (none)) else (none))) = some r:=H
       have A52:=Aside0.mk A520
       clear A520
       replace H:=Option.bind_eq_some_iff.mp H
       obtain ⟨⟨t331,t332⟩,A530,H⟩:=H
       replace H : (if t329.toList = t331.toList then (if t330 = t332 then ((page_Size.f k2 x9_2).bind fun t333 => ((cofferref10_Size.f k2 x9_2).bind fun t334 => (if t333 = t334 then ((cofferlaw10_first.f k2).bind fun t335 => (some t335)) else (none)))) else (none)) else (none)) = some r:=H
       have A53:=Aside0.mk A530
       clear A530
       by_cases c54 : t329.toList = t331.toList
       ·rw [if_pos c54] at H
        have c54b0 : (t329.toList == t331.toList) = true:=beq_iff_eq.mpr c54
        have c54b1 : (t329.toList != t331.toList) = false:=bne_eq_false_iff_eq.mpr c54
        clear c54
        by_cases c55 : t330 = t332
        ·rw [if_pos c55] at H
         have c55b0 : (t330 == t332) = true:=beq_iff_eq.mpr c55
         have c55b1 : (t330 != t332) = false:=bne_eq_false_iff_eq.mpr c55
         clear c55
         replace H:=Option.bind_eq_some_iff.mp H
         obtain ⟨t333,A560,H⟩:=H
         replace H : ((cofferref10_Size.f k2 x9_2).bind fun t334 => (if t333 = t334 then ((cofferlaw10_first.f k2).bind fun t335 => (some t335)) else (none))) = some r:=H
         have A56:=Aside0.mk A560
         clear A560
         replace H:=Option.bind_eq_some_iff.mp H
         obtain ⟨t334,A570,H⟩:=H
         replace H : (if t333 = t334 then ((cofferlaw10_first.f k2).bind fun t335 => (some t335)) else (none)) = some r:=H
         have A57:=Aside0.mk A570
         clear A570
         by_cases c58 : t333 = t334
         ·rw [if_pos c58] at H
          have c58b0 : (t333 == t334) = true:=beq_iff_eq.mpr c58
          have c58b1 : (t333 != t334) = false:=bne_eq_false_iff_eq.mpr c58
          clear c58
          replace H:=Option.bind_eq_some_iff.mp H
          obtain ⟨t335,A590,H⟩:=H
          replace H : (some t335) = some r:=H
          have A59:=Aside0.mk A590
          clear A590
          obtain rfl:=Option.some.inj H
          go_wp2_with (first|((with_reducible refine gate_callee (f:=10) rfl ?_);refine goesL_ (some 129) rfl rfl Try.func10 (by kernel_rfl) rfl #[.agg #[.int .i64 a0,.int .i64 a1,.slice Ao13 x9_2.length co13]] rfl (by (try simp only [List.map_toArray,List.map_cons,List.map_nil]);first|done|rfl|(simp only [List.length_drop,List.length_take];rfl)) ?_;(with_reducible refine (page_Write.calls k2 a0 a1 _ _ x9_2 t329 t330 _ ?side1 ?side2 A52.out).mono ?_);(case side1 => repeat (first|exact (Kd.R_reads' HO_9.out).2.2|(with_reducible refine Kd.C_alloc ?_ _)|(with_reducible refine Kd.C_drewN ?_ _)|(with_reducible refine Kd.C_drew ?_)));(case side2 => exact (Kd.R_reads' HO_9.out).2.1);rintro e w60 ⟨rfl,hb⟩;refine ⟨_,rfl,?_⟩;have n0_:=Aside0.mk (Kd.R_below (by (with_reducible repeat (first|apply Kd.R_alloc|apply Kd.R_drewN|apply Kd.R_drew));exact HO_9.out) hb);have n1_:=Aside0.mk (Kd.R_below (by (with_reducible repeat (first|apply Kd.R_alloc|apply Kd.R_drewN|apply Kd.R_drew));exact HO_318002.out) hb);have n2_:=Aside0.mk (Kd.R_below (by (with_reducible repeat (first|apply Kd.R_alloc|apply Kd.R_drewN|apply Kd.R_drew));exact HO_325002.out) hb);have n3_:=Aside0.mk (blk_below (g:=gb317) (o:=.cells #[.int .i64 t311,.int .i64 t312,.slice Ao20 t313.length co20] 28 (0,0)) (by (with_reducible repeat (first|refine blk_drewN ?_ _|refine blk_drew ?_|refine blk_alloc ?_ _));exact BK317.out) hb);have n4_:=Aside0.mk (blk_below (g:=gb324) (o:=.cells #[.int .i64 t318,.int .i64 t319,.slice Ao25 t320.length co25] 30 (0,0)) (by (with_reducible repeat (first|refine blk_drewN ?_ _|refine blk_drew ?_|refine blk_alloc ?_ _));exact BK324.out) hb);have n5_:=Aside0.mk (below_step (by repeat (first|(with_reducible first|exact HB.out|apply below_alloc|apply pw_below_drewN|apply below_drew1|refine below_set ?_ GE317.out|refine below_set ?_ GE324.out)|exact HB.out)) hb);clear HO_9;clear HO_318002;clear HO_325002;clear BK317;clear BK324;clear HB;have HO_9:=n0_;have HO_318002:=n1_;have HO_325002:=n2_;have BK317:=n3_;have BK324:=n4_;have HB:=n5_;clear n0_ n1_ n2_ n3_ n4_ n5_;(try clear hb);(try clear hb2);(try clear hk);(try clear hi))|((with_reducible refine gate_callee (f:=11) rfl ?_);refine goesL_ (some 137) rfl rfl Try.func11 (by kernel_rfl) rfl #[.agg #[.int .i64 a0,.int .i64 a1,.slice Ao13 x9_2.length co13]] rfl (by (try simp only [List.map_toArray,List.map_cons,List.map_nil]);first|done|rfl|(simp only [List.length_drop,List.length_take];rfl)) ?_;(with_reducible refine (cofferref10_Write.calls k2 a0 a1 _ _ x9_2 t331 t332 _ ?side1 ?side2 A53.out).mono ?_);(case side1 => repeat (first|exact (Kd.R_reads' HO_9.out).2.2|(with_reducible refine Kd.C_alloc ?_ _)|(with_reducible refine Kd.C_drewN ?_ _)|(with_reducible refine Kd.C_drew ?_)));(case side2 => exact (Kd.R_reads' HO_9.out).2.1);rintro e w61 ⟨rfl,hb⟩;refine ⟨_,rfl,?_⟩;have n0_:=Aside0.mk (Kd.R_below (by (with_reducible repeat (first|apply Kd.R_alloc|apply Kd.R_drewN|apply Kd.R_drew));exact HO_9.out) hb);have n1_:=Aside0.mk (Kd.R_below (by (with_reducible repeat (first|apply Kd.R_alloc|apply Kd.R_drewN|apply Kd.R_drew));exact HO_318002.out) hb);have n2_:=Aside0.mk (Kd.R_below (by (with_reducible repeat (first|apply Kd.R_alloc|apply Kd.R_drewN|apply Kd.R_drew));exact HO_325002.out) hb);have n3_:=Aside0.mk (blk_below (g:=gb317) (o:=.cells #[.int .i64 t311,.int .i64 t312,.slice Ao20 t313.length co20] 28 (0,0)) (by (with_reducible repeat (first|refine blk_drewN ?_ _|refine blk_drew ?_|refine blk_alloc ?_ _));exact BK317.out) hb);have n4_:=Aside0.mk (blk_below (g:=gb324) (o:=.cells #[.int .i64 t318,.int .i64 t319,.slice Ao25 t320.length co25] 30 (0,0)) (by (with_reducible repeat (first|refine blk_drewN ?_ _|refine blk_drew ?_|refine blk_alloc ?_ _));exact BK324.out) hb);have n5_:=Aside0.mk (below_step (by repeat (first|(with_reducible first|exact HB.out|apply below_alloc|apply pw_below_drewN|apply below_drew1|refine below_set ?_ GE317.out|refine below_set ?_ GE324.out)|exact HB.out)) hb);clear HO_9;clear HO_318002;clear HO_325002;clear BK317;clear BK324;clear HB;have HO_9:=n0_;have HO_318002:=n1_;have HO_325002:=n2_;have BK317:=n3_;have BK324:=n4_;have HB:=n5_;clear n0_ n1_ n2_ n3_ n4_ n5_;(try clear hb);(try clear hb2);(try clear hk);(try clear hi))|(go_at_call 16;(with_reducible refine (page_Size.calls k2 _ _ x9_2 t333 _ ?side1 ?side2 A56.out).mono ?_);(case side1 => repeat (first|exact (Kd.R_reads' HO_9.out).2.2|(with_reducible refine Kd.C_alloc ?_ _)|(with_reducible refine Kd.C_drewN ?_ _)|(with_reducible refine Kd.C_drew ?_)));(case side2 => exact (Kd.R_reads' HO_9.out).2.1);rintro e w62 ⟨rfl,hb⟩;have n0_:=Aside0.mk (Kd.R_below (by (with_reducible repeat (first|apply Kd.R_alloc|apply Kd.R_drewN|apply Kd.R_drew));exact HO_9.out) hb);have n1_:=Aside0.mk (Kd.R_below (by (with_reducible repeat (first|apply Kd.R_alloc|apply Kd.R_drewN|apply Kd.R_drew));exact HO_318002.out) hb);have n2_:=Aside0.mk (Kd.R_below (by (with_reducible repeat (first|apply Kd.R_alloc|apply Kd.R_drewN|apply Kd.R_drew));exact HO_325002.out) hb);have n3_:=Aside0.mk (blk_below (g:=gb317) (o:=.cells #[.int .i64 t311,.int .i64 t312,.slice Ao20 t313.length co20] 28 (0,0)) (by (with_reducible repeat (first|refine blk_drewN ?_ _|refine blk_drew ?_|refine blk_alloc ?_ _));exact BK317.out) hb);have n4_:=Aside0.mk (blk_below (g:=gb324) (o:=.cells #[.int .i64 t318,.int .i64 t319,.slice Ao25 t320.length co25] 30 (0,0)) (by (with_reducible repeat (first|refine blk_drewN ?_ _|refine blk_drew ?_|refine blk_alloc ?_ _));exact BK324.out) hb);have n5_:=Aside0.mk (below_step (by repeat (first|(with_reducible first|exact HB.out|apply below_alloc|apply pw_below_drewN|apply below_drew1|refine below_set ?_ GE317.out|refine below_set ?_ GE324.out)|exact HB.out)) hb);clear HO_9;clear HO_318002;clear HO_325002;clear BK317;clear BK324;clear HB;have HO_9:=n0_;have HO_318002:=n1_;have HO_325002:=n2_;have BK317:=n3_;have BK324:=n4_;have HB:=n5_;clear n0_ n1_ n2_ n3_ n4_ n5_;(try clear hb);(try clear hb2);(try clear hk);(try clear hi))|(go_at_call 17;(with_reducible refine (cofferref10_Size.calls k2 _ _ x9_2 t334 _ ?side1 ?side2 A57.out).mono ?_);(case side1 => repeat (first|exact (Kd.R_reads' HO_9.out).2.2|(with_reducible refine Kd.C_alloc ?_ _)|(with_reducible refine Kd.C_drewN ?_ _)|(with_reducible refine Kd.C_drew ?_)));(case side2 => exact (Kd.R_reads' HO_9.out).2.1);rintro e w' ⟨rfl,⟨nd,rfl⟩⟩)|(go_at_call 18;(with_reducible refine (cofferlaw10_first.calls k2  t335 _ A59.out).mono ?_);rintro e w63 ⟨rfl,hb⟩;have n0_:=Aside0.mk (Kd.R_below (by (with_reducible repeat (first|apply Kd.R_alloc|apply Kd.R_drewN|apply Kd.R_drew));exact HO_9.out) hb);have n1_:=Aside0.mk (Kd.R_below (by (with_reducible repeat (first|apply Kd.R_alloc|apply Kd.R_drewN|apply Kd.R_drew));exact HO_318002.out) hb);have n2_:=Aside0.mk (Kd.R_below (by (with_reducible repeat (first|apply Kd.R_alloc|apply Kd.R_drewN|apply Kd.R_drew));exact HO_325002.out) hb);have n3_:=Aside0.mk (blk_below (g:=gb317) (o:=.cells #[.int .i64 t311,.int .i64 t312,.slice Ao20 t313.length co20] 28 (0,0)) (by (with_reducible repeat (first|refine blk_drewN ?_ _|refine blk_drew ?_|refine blk_alloc ?_ _));exact BK317.out) hb);have n4_:=Aside0.mk (blk_below (g:=gb324) (o:=.cells #[.int .i64 t318,.int .i64 t319,.slice Ao25 t320.length co25] 30 (0,0)) (by (with_reducible repeat (first|refine blk_drewN ?_ _|refine blk_drew ?_|refine blk_alloc ?_ _));exact BK324.out) hb);have n5_:=Aside0.mk (below_step (by repeat (first|(with_reducible first|exact HB.out|apply below_alloc|apply pw_below_drewN|apply below_drew1|refine below_set ?_ GE317.out|refine below_set ?_ GE324.out)|exact HB.out)) hb);clear HO_9;clear HO_318002;clear HO_325002;clear BK317;clear BK324;clear HB;have HO_9:=n0_;have HO_318002:=n1_;have HO_325002:=n2_;have BK317:=n3_;have BK324:=n4_;have HB:=n5_;clear n0_ n1_ n2_ n3_ n4_ n5_;(try clear hb);(try clear hb2);(try clear hk);(try clear hi)))
          go_ret
          exact ⟨by first|rfl|(simp [errW_none,errW_some] <;> rfl)|(simp [*,errW_none,errW_some] <;> rfl),by repeat (first|(with_reducible first|exact HB.out|apply below_alloc|apply pw_below_drewN|apply below_drew1|refine below_set ?_ GE317.out|refine below_set ?_ GE324.out)|exact HB.out)⟩
         ·rw [if_neg c58] at H
          exact absurd H (by simp)
        ·rw [if_neg c55] at H
         exact absurd H (by simp)
       ·rw [if_neg c54] at H
        exact absurd H (by simp)

end Go.Proofs.Ytffgodpmmipnkaa.X
