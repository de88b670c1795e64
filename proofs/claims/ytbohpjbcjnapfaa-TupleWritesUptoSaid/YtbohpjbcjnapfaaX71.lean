-- By a program of this session (wip/xprint.py over the kit's print).
import Derived.Test.YtbohpjbcjnapfaaX0
import Derived.Test.YtbohpjbcjnapfaaX20
import Derived.Test.YtbohpjbcjnapfaaX21
import Derived.Test.YtbohpjbcjnapfaaX31
import Derived.Test.YtbohpjbcjnapfaaX36
import Derived.Test.YtbohpjbcjnapfaaXB
import Derived.Test.YtbohpjbcjnapfaaX51
import Derived.Test.YtbohpjbcjnapfaaX53
import Derived.Test.YtbohpjbcjnapfaaX70
namespace Go.Proofs.Ytbohpjbcjnapfaa.X
open Go.RowKit Go.Proofs.YtbohpjbcjnapfaaW.PrintWords Go.Proofs.YtbohpjbcjnapfaaW.PrintLast Go.Proofs.YtbohpjbcjnapfaaW.PrintMore
attribute [local go_sem] max2_int min2_int max_two min_two max_three min_three max_four min_four Go.Proofs.Ytbohpjbcjnapfaa.Z.leq_string Go.Proofs.Ytbohpjbcjnapfaa.Z.gtr_string Go.Proofs.Ytbohpjbcjnapfaa.Z.geq_string   -- for this text's walks alone
set_option linter.unusedVariables false
set_option linter.unusedSimpArgs false

/-! ### cofferlaw05_TupleWrites: function 3 -/
def cofferlaw05_TupleWrites.f (k : Nat) (l0 : List (S58)) (l1 : List (S58)) : Option (Bool) := (cofferlaw05_head.f k).bind fun t224 => (if t224 = true then ((cofferref05_Write.f k l0).bind fun bt225 => ((cofferref05_Limits.f k l0).bind fun bt227 => ((cofferref05_Compare.f k l0 l1).bind fun t230 => ((cofferlaw05_own.f k l0).bind fun bt231 => ((cofferlaw05_own.f k l1).bind fun bt237 => ((tuple_Write.f bt231.1).bind fun bt243 => ((tuple_Limits.f bt231.1).bind fun bt245 => (if bt243.1.toList = bt225.1.toList then (if bt243.2 = bt225.2 then (if bt245.1.toList = bt227.1.toList then (if bt245.2.1.toList = bt227.2.1.toList then (if bt245.2.2 = bt227.2.2 then ((tuple_Compare.f k bt231.1 bt237.1).bind fun t248 => (if t248 = t230 then ((tuple_Compare.f k bt237.1 bt231.1).bind fun t249 => (if t249 = (wrap64 (-t230)) then ((cofferlaw05_stays.f k bt231.2 l0).bind fun t250 => (if t250 = true then ((cofferlaw05_stays.f k bt237.2 l1).bind fun t251 => (some t251)) else (none))) else (none))) else (none))) else (none)) else (none)) else (none)) else (none)) else (none))))))))) else (none))
theorem cofferlaw05_TupleWrites.mono : ∀ a0 a1 k, LeO (cofferlaw05_TupleWrites.f k a0 a1) (cofferlaw05_TupleWrites.f (k + 1) a0 a1) := by
  intro a0 a1 k
  unfold cofferlaw05_TupleWrites.f
  repeat' first
      | (with_reducible exact cofferlaw05_head.mono _)
      | (with_reducible exact cofferlaw05_own.mono _ _)
      | (with_reducible exact cofferlaw05_stays.mono _ _ _)
      | (with_reducible exact cofferref05_Compare.mono _ _ _)
      | (with_reducible exact cofferref05_Limits.mono _ _)
      | (with_reducible exact cofferref05_Write.mono _ _)
      | (with_reducible exact tuple_Compare.mono _ _ _)
      | (with_reducible exact LeO.refl _)
      | (with_reducible exact LeO.none _)
      | (with_reducible refine LeO.ite ?_ ?_)
      | (with_reducible refine LeO.bind ?_ (fun _ => ?_))
      | exact cofferlaw05_head.mono _
      | exact cofferlaw05_own.mono _ _
      | exact cofferlaw05_stays.mono _ _ _
      | exact cofferref05_Compare.mono _ _ _
      | exact cofferref05_Limits.mono _ _
      | exact cofferref05_Write.mono _ _
      | exact tuple_Compare.mono _ _ _
      | exact LeO.none _
      | refine LeO.ite ?_ ?_
      | refine LeO.bind ?_ (fun _ => ?_)
set_option maxHeartbeats 8000000 in
set_option maxRecDepth 100000 in
theorem cofferlaw05_TupleWrites.calls (k : Nat) (A0 : Option Addr) (c0 : Nat) (l0 : List (S58)) (A1 : Option Addr) (c1 : Nat) (l1 : List (S58)) (r : Bool) (w : World) (hr0 : Kd.C k58 w A0 l0.length l0) (hc0 : l0.length ≤ c0) (hr1 : Kd.C k58 w A1 l1.length l1) (hc1 : l1.length ≤ c1) (h : cofferlaw05_TupleWrites.f k l0 l1 = some r) :
    Calls Try.prog 3 #[.slice A0 l0.length c0, .slice A1 l1.length c1] w fun e w' => e = .returned (.bool r) ∧ Below w.heap.size w w' := by
  have HR0 := Aside0.mk hr0
  have HC0 := Aside0.mk hc0
  clear hr0 hc0
  have HR1 := Aside0.mk hr1
  have HC1 := Aside0.mk hc1
  clear hr1 hc1
  have HB := Aside0.mk (Below.refl w.heap.size w)
  have H : ((cofferlaw05_head.f k).bind fun t224 => (if t224 = true then ((cofferref05_Write.f k l0).bind fun bt225 => ((cofferref05_Limits.f k l0).bind fun bt227 => ((cofferref05_Compare.f k l0 l1).bind fun t230 => ((cofferlaw05_own.f k l0).bind fun bt231 => ((cofferlaw05_own.f k l1).bind fun bt237 => ((tuple_Write.f bt231.1).bind fun bt243 => ((tuple_Limits.f bt231.1).bind fun bt245 => (if bt243.1.toList = bt225.1.toList then (if bt243.2 = bt225.2 then (if bt245.1.toList = bt227.1.toList then (if bt245.2.1.toList = bt227.2.1.toList then (if bt245.2.2 = bt227.2.2 then ((tuple_Compare.f k bt231.1 bt237.1).bind fun t248 => (if t248 = t230 then ((tuple_Compare.f k bt237.1 bt231.1).bind fun t249 => (if t249 = (wrap64 (-t230)) then ((cofferlaw05_stays.f k bt231.2 l0).bind fun t250 => (if t250 = true then ((cofferlaw05_stays.f k bt237.2 l1).bind fun t251 => (some t251)) else (none))) else (none))) else (none))) else (none)) else (none)) else (none)) else (none)) else (none))))))))) else (none))) = some r := h
  clear h
  replace H := Option.bind_eq_some_iff.mp H
  obtain ⟨t224, A30, H⟩ := H
  replace H : (if t224 = true then ((cofferref05_Write.f k l0).bind fun bt225 => ((cofferref05_Limits.f k l0).bind fun bt227 => ((cofferref05_Compare.f k l0 l1).bind fun t230 => ((cofferlaw05_own.f k l0).bind fun bt231 => ((cofferlaw05_own.f k l1).bind fun bt237 => ((tuple_Write.f bt231.1).bind fun bt243 => ((tuple_Limits.f bt231.1).bind fun bt245 => (if bt243.1.toList = bt225.1.toList then (if bt243.2 = bt225.2 then (if bt245.1.toList = bt227.1.toList then (if bt245.2.1.toList = bt227.2.1.toList then (if bt245.2.2 = bt227.2.2 then ((tuple_Compare.f k bt231.1 bt237.1).bind fun t248 => (if t248 = t230 then ((tuple_Compare.f k bt237.1 bt231.1).bind fun t249 => (if t249 = (wrap64 (-t230)) then ((cofferlaw05_stays.f k bt231.2 l0).bind fun t250 => (if t250 = true then ((cofferlaw05_stays.f k bt237.2 l1).bind fun t251 => (some t251)) else (none))) else (none))) else (none))) else (none)) else (none)) else (none)) else (none)) else (none))))))))) else (none)) = some r := H
  have A3 := Aside0.mk A30
  clear A30
  by_cases c4 : t224 = true
  · subst c4
    have H1 : ((cofferref05_Write.f k l0).bind fun bt225 => ((cofferref05_Limits.f k l0).bind fun bt227 => ((cofferref05_Compare.f k l0 l1).bind fun t230 => ((cofferlaw05_own.f k l0).bind fun bt231 => ((cofferlaw05_own.f k l1).bind fun bt237 => ((tuple_Write.f bt231.1).bind fun bt243 => ((tuple_Limits.f bt231.1).bind fun bt245 => (if bt243.1.toList = bt225.1.toList then (if bt243.2 = bt225.2 then (if bt245.1.toList = bt227.1.toList then (if bt245.2.1.toList = bt227.2.1.toList then (if bt245.2.2 = bt227.2.2 then ((tuple_Compare.f k bt231.1 bt237.1).bind fun t248 => (if t248 = t230 then ((tuple_Compare.f k bt237.1 bt231.1).bind fun t249 => (if t249 = (wrap64 (-t230)) then ((cofferlaw05_stays.f k bt231.2 l0).bind fun t250 => (if t250 = true then ((cofferlaw05_stays.f k bt237.2 l1).bind fun t251 => (some t251)) else (none))) else (none))) else (none))) else (none)) else (none)) else (none)) else (none)) else (none))))))))) = some r := by rw [if_pos rfl] at H; exact H
    clear H
    have H := H1
    clear H1
    replace H := Option.bind_eq_some_iff.mp H
    obtain ⟨⟨t225, t226⟩, A50, H⟩ := H
    replace H : ((cofferref05_Limits.f k l0).bind fun bt227 => ((cofferref05_Compare.f k l0 l1).bind fun t230 => ((cofferlaw05_own.f k l0).bind fun bt231 => ((cofferlaw05_own.f k l1).bind fun bt237 => ((tuple_Write.f bt231.1).bind fun bt243 => ((tuple_Limits.f bt231.1).bind fun bt245 => (if bt243.1.toList = t225.toList then (if bt243.2 = t226 then (if bt245.1.toList = bt227.1.toList then (if bt245.2.1.toList = bt227.2.1.toList then (if bt245.2.2 = bt227.2.2 then ((tuple_Compare.f k bt231.1 bt237.1).bind fun t248 => (if t248 = t230 then ((tuple_Compare.f k bt237.1 bt231.1).bind fun t249 => (if t249 = (wrap64 (-t230)) then ((cofferlaw05_stays.f k bt231.2 l0).bind fun t250 => (if t250 = true then ((cofferlaw05_stays.f k bt237.2 l1).bind fun t251 => (some t251)) else (none))) else (none))) else (none))) else (none)) else (none)) else (none)) else (none)) else (none)))))))) = some r := H
    have A5 := Aside0.mk A50
    clear A50
    replace H := Option.bind_eq_some_iff.mp H
    obtain ⟨⟨t227, t228, t229⟩, A60, H⟩ := H
    replace H : ((cofferref05_Compare.f k l0 l1).bind fun t230 => ((cofferlaw05_own.f k l0).bind fun bt231 => ((cofferlaw05_own.f k l1).bind fun bt237 => ((tuple_Write.f bt231.1).bind fun bt243 => ((tuple_Limits.f bt231.1).bind fun bt245 => (if bt243.1.toList = t225.toList then (if bt243.2 = t226 then (if bt245.1.toList = t227.toList then (if bt245.2.1.toList = t228.toList then (if bt245.2.2 = t229 then ((tuple_Compare.f k bt231.1 bt237.1).bind fun t248 => (if t248 = t230 then ((tuple_Compare.f k bt237.1 bt231.1).bind fun t249 => (if t249 = (wrap64 (-t230)) then ((cofferlaw05_stays.f k bt231.2 l0).bind fun t250 => (if t250 = true then ((cofferlaw05_stays.f k bt237.2 l1).bind fun t251 => (some t251)) else (none))) else (none))) else (none))) else (none)) else (none)) else (none)) else (none)) else (none))))))) = some r := H
    have A6 := Aside0.mk A60
    clear A60
    replace H := Option.bind_eq_some_iff.mp H
    obtain ⟨t230, A70, H⟩ := H
    replace H : ((cofferlaw05_own.f k l0).bind fun bt231 => ((cofferlaw05_own.f k l1).bind fun bt237 => ((tuple_Write.f bt231.1).bind fun bt243 => ((tuple_Limits.f bt231.1).bind fun bt245 => (if bt243.1.toList = t225.toList then (if bt243.2 = t226 then (if bt245.1.toList = t227.toList then (if bt245.2.1.toList = t228.toList then (if bt245.2.2 = t229 then ((tuple_Compare.f k bt231.1 bt237.1).bind fun t248 => (if t248 = t230 then ((tuple_Compare.f k bt237.1 bt231.1).bind fun t249 => (if t249 = (wrap64 (-t230)) then ((cofferlaw05_stays.f k bt231.2 l0).bind fun t250 => (if t250 = true then ((cofferlaw05_stays.f k bt237.2 l1).bind fun t251 => (some t251)) else (none))) else (none))) else (none))) else (none)) else (none)) else (none)) else (none)) else (none)))))) = some r := H
    have A7 := Aside0.mk A70
    clear A70
    replace H := Option.bind_eq_some_iff.mp H
    obtain ⟨⟨t231, t232⟩, A80, H⟩ := H
    replace H : ((cofferlaw05_own.f k l1).bind fun bt237 => ((tuple_Write.f t231).bind fun bt243 => ((tuple_Limits.f t231).bind fun bt245 => (if bt243.1.toList = t225.toList then (if bt243.2 = t226 then (if bt245.1.toList = t227.toList then (if bt245.2.1.toList = t228.toList then (if bt245.2.2 = t229 then ((tuple_Compare.f k t231 bt237.1).bind fun t248 => (if t248 = t230 then ((tuple_Compare.f k bt237.1 t231).bind fun t249 => (if t249 = (wrap64 (-t230)) then ((cofferlaw05_stays.f k t232 l0).bind fun t250 => (if t250 = true then ((cofferlaw05_stays.f k bt237.2 l1).bind fun t251 => (some t251)) else (none))) else (none))) else (none))) else (none)) else (none)) else (none)) else (none)) else (none))))) = some r := H
    have A8 := Aside0.mk A80
    clear A80
    replace H := Option.bind_eq_some_iff.mp H
    obtain ⟨⟨t237, t238⟩, A90, H⟩ := H
    replace H : ((tuple_Write.f t231).bind fun bt243 => ((tuple_Limits.f t231).bind fun bt245 => (if bt243.1.toList = t225.toList then (if bt243.2 = t226 then (if bt245.1.toList = t227.toList then (if bt245.2.1.toList = t228.toList then (if bt245.2.2 = t229 then ((tuple_Compare.f k t231 t237).bind fun t248 => (if t248 = t230 then ((tuple_Compare.f k t237 t231).bind fun t249 => (if t249 = (wrap64 (-t230)) then ((cofferlaw05_stays.f k t232 l0).bind fun t250 => (if t250 = true then ((cofferlaw05_stays.f k t238 l1).bind fun t251 => (some t251)) else (none))) else (none))) else (none))) else (none)) else (none)) else (none)) else (none)) else (none)))) = some r := H
    have A9 := Aside0.mk A90
    clear A90
    replace H := Option.bind_eq_some_iff.mp H
    obtain ⟨⟨t243, t244⟩, A100, H⟩ := H
    replace H : ((tuple_Limits.f t231).bind fun bt245 => (if t243.toList = t225.toList then (if t244 = t226 then (if bt245.1.toList = t227.toList then (if bt245.2.1.toList = t228.toList then (if bt245.2.2 = t229 then ((tuple_Compare.f k t231 t237).bind fun t248 => (if t248 = t230 then ((tuple_Compare.f k t237 t231).bind fun t249 => (if t249 = (wrap64 (-t230)) then ((cofferlaw05_stays.f k t232 l0).bind fun t250 => (if t250 = true then ((cofferlaw05_stays.f k t238 l1).bind fun t251 => (some t251)) else (none))) else (none))) else (none))) else (none)) else (none)) else (none)) else (none)) else (none))) = some r := H
    have A10 := Aside0.mk A100
    clear A100
    replace H := Option.bind_eq_some_iff.mp H
    obtain ⟨⟨t245, t246, t247⟩, A110, H⟩ := H
    replace H : (if t243.toList = t225.toList then (if t244 = t226 then (if t245.toList = t227.toList then (if t246.toList = t228.toList then (if t247 = t229 then ((tuple_Compare.f k t231 t237).bind fun t248 => (if t248 = t230 then ((tuple_Compare.f k t237 t231).bind fun t249 => (if t249 = (wrap64 (-t230)) then ((cofferlaw05_stays.f k t232 l0).bind fun t250 => (if t250 = true then ((cofferlaw05_stays.f k t238 l1).bind fun t251 => (some t251)) else (none))) else (none))) else (none))) else (none)) else (none)) else (none)) else (none)) else (none)) = some r := H
    have A11 := Aside0.mk A110
    clear A110
    by_cases c12 : t243.toList = t225.toList
    · rw [if_pos c12] at H
      have c12b0 : (t243.toList == t225.toList) = true := beq_iff_eq.mpr c12
      have c12b1 : (t243.toList != t225.toList) = false := bne_eq_false_iff_eq.mpr c12
      clear c12
      by_cases c13 : t244 = t226
      · rw [if_pos c13] at H
        have c13b0 : (t244 == t226) = true := beq_iff_eq.mpr c13
        have c13b1 : (t244 != t226) = false := bne_eq_false_iff_eq.mpr c13
        clear c13
        by_cases c14 : t245.toList = t227.toList
        · rw [if_pos c14] at H
          have c14b0 : (t245.toList == t227.toList) = true := beq_iff_eq.mpr c14
          have c14b1 : (t245.toList != t227.toList) = false := bne_eq_false_iff_eq.mpr c14
          clear c14
          by_cases c15 : t246.toList = t228.toList
          · rw [if_pos c15] at H
            have c15b0 : (t246.toList == t228.toList) = true := beq_iff_eq.mpr c15
            have c15b1 : (t246.toList != t228.toList) = false := bne_eq_false_iff_eq.mpr c15
            clear c15
            by_cases c16 : t247 = t229
            · rw [if_pos c16] at H
              have c16b0 : (t247 == t229) = true := beq_iff_eq.mpr c16
              have c16b1 : (t247 != t229) = false := bne_eq_false_iff_eq.mpr c16
              clear c16
              replace H := Option.bind_eq_some_iff.mp H
              obtain ⟨t248, A170, H⟩ := H
              replace H : (if t248 = t230 then ((tuple_Compare.f k t237 t231).bind fun t249 => (if t249 = (wrap64 (-t230)) then ((cofferlaw05_stays.f k t232 l0).bind fun t250 => (if t250 = true then ((cofferlaw05_stays.f k t238 l1).bind fun t251 => (some t251)) else (none))) else (none))) else (none)) = some r := H
              have A17 := Aside0.mk A170
              clear A170
              by_cases c18 : t248 = t230
              · rw [if_pos c18] at H
                have c18b0 : (t248 == t230) = true := beq_iff_eq.mpr c18
                have c18b1 : (t248 != t230) = false := bne_eq_false_iff_eq.mpr c18
                clear c18
                replace H := Option.bind_eq_some_iff.mp H
                obtain ⟨t249, A190, H⟩ := H
                replace H : (if t249 = (wrap64 (-t230)) then ((cofferlaw05_stays.f k t232 l0).bind fun t250 => (if t250 = true then ((cofferlaw05_stays.f k t238 l1).bind fun t251 => (some t251)) else (none))) else (none)) = some r := H
                have A19 := Aside0.mk A190
                clear A190
                by_cases c20 : t249 = (wrap64 (-t230))
                · rw [if_pos c20] at H
                  have c20b0 : (t249 == (wrap64 (-t230))) = true := beq_iff_eq.mpr c20
                  have c20b1 : (t249 != (wrap64 (-t230))) = false := bne_eq_false_iff_eq.mpr c20
                  clear c20
                  replace H := Option.bind_eq_some_iff.mp H
                  obtain ⟨t250, A210, H⟩ := H
                  replace H : (if t250 = true then ((cofferlaw05_stays.f k t238 l1).bind fun t251 => (some t251)) else (none)) = some r := H
                  have A21 := Aside0.mk A210
                  clear A210
                  by_cases c22 : t250 = true
                  · subst c22
                    have H1 : ((cofferlaw05_stays.f k t238 l1).bind fun t251 => (some t251)) = some r := by rw [if_pos rfl] at H; exact H
                    clear H
                    have H := H1
                    clear H1
                    replace H := Option.bind_eq_some_iff.mp H
                    obtain ⟨t251, A230, H⟩ := H
                    replace H : (some t251) = some r := H
                    have A23 := Aside0.mk A230
                    clear A230
                    obtain rfl := Option.some.inj H
                    go_enter Try.func3, Try.ntmps3
                    go_wp2_with (first | ((with_reducible refine gate_callee (f := 10) rfl ?_); refine goesL_ (some 20) rfl rfl Try.func10 (by kernel_rfl) rfl #[] rfl (by (try simp only [List.map_toArray, List.map_cons, List.map_nil]); first | done | rfl | (simp only [List.length_drop, List.length_take]; rfl)) ?_; (with_reducible refine (cofferlaw05_head.calls k  true _ A3.out).mono ?_); rintro e w24 ⟨rfl, hb⟩; refine ⟨_, rfl, ?_⟩; have n0_ := Aside0.mk (below_step (by repeat (first | (with_reducible first | exact HB.out | apply below_alloc | apply pw_below_drewN | apply below_drew1) | exact HB.out)) hb); clear HB; have HB := n0_; clear n0_; (try clear hb); (try clear hb2); (try clear hk); (try clear hi)) | ((with_reducible refine gate_callee (f := 11) rfl ?_); refine goesL_ (some 24) rfl rfl Try.func11 (by kernel_rfl) rfl #[.slice A0 l0.length c0] rfl (by (try simp only [List.map_toArray, List.map_cons, List.map_nil]); first | done | rfl | (simp only [List.length_drop, List.length_take]; rfl)) ?_; (with_reducible refine (cofferref05_Write.calls k _ _ l0 t225 t226 _ ?side1 ?side2 A5.out).mono ?_); (case side1 => repeat (first | exact (Kd.C_below HR0.out HB.out) | (with_reducible refine Kd.C_alloc ?_ _) | (with_reducible refine Kd.C_drewN ?_ _) | (with_reducible refine Kd.C_drew ?_))); (case side2 => exact HC0.out); rintro e w25 ⟨rfl, hb⟩; refine ⟨_, rfl, ?_⟩; have n0_ := Aside0.mk (below_step (by repeat (first | (with_reducible first | exact HB.out | apply below_alloc | apply pw_below_drewN | apply below_drew1) | exact HB.out)) hb); clear HB; have HB := n0_; clear n0_; (try clear hb); (try clear hb2); (try clear hk); (try clear hi)) | ((with_reducible refine gate_callee (f := 12) rfl ?_); refine goesL_ (some 29) rfl rfl Try.func12 (by kernel_rfl) rfl #[.slice A0 l0.length c0] rfl (by (try simp only [List.map_toArray, List.map_cons, List.map_nil]); first | done | rfl | (simp only [List.length_drop, List.length_take]; rfl)) ?_; (with_reducible refine (cofferref05_Limits.calls k _ _ l0 t227 t228 t229 _ ?side1 ?side2 A6.out).mono ?_); (case side1 => repeat (first | exact (Kd.C_below HR0.out HB.out) | (with_reducible refine Kd.C_alloc ?_ _) | (with_reducible refine Kd.C_drewN ?_ _) | (with_reducible refine Kd.C_drew ?_))); (case side2 => exact HC0.out); rintro e w26 ⟨rfl, hb⟩; refine ⟨_, rfl, ?_⟩; have n0_ := Aside0.mk (below_step (by repeat (first | (with_reducible first | exact HB.out | apply below_alloc | apply pw_below_drewN | apply below_drew1) | exact HB.out)) hb); clear HB; have HB := n0_; clear n0_; (try clear hb); (try clear hb2); (try clear hk); (try clear hi)) | ((with_reducible refine gate_callee (f := 13) rfl ?_); refine goesL_ (some 35) rfl rfl Try.func13 (by kernel_rfl) rfl #[.slice A0 l0.length c0, .slice A1 l1.length c1] rfl (by (try simp only [List.map_toArray, List.map_cons, List.map_nil]); first | done | rfl | (simp only [List.length_drop, List.length_take]; rfl)) ?_; (with_reducible refine (cofferref05_Compare.calls k _ _ l0 _ _ l1 t230 _ ?side1 ?side2 ?side3 ?side4 A7.out).mono ?_); (case side1 => repeat (first | exact (Kd.C_below HR0.out HB.out) | (with_reducible refine Kd.C_alloc ?_ _) | (with_reducible refine Kd.C_drewN ?_ _) | (with_reducible refine Kd.C_drew ?_))); (case side2 => exact HC0.out); (case side3 => repeat (first | exact (Kd.C_below HR1.out HB.out) | (with_reducible refine Kd.C_alloc ?_ _) | (with_reducible refine Kd.C_drewN ?_ _) | (with_reducible refine Kd.C_drew ?_))); (case side4 => exact HC1.out); rintro e w27 ⟨rfl, hb⟩; refine ⟨_, rfl, ?_⟩; have n0_ := Aside0.mk (below_step (by repeat (first | (with_reducible first | exact HB.out | apply below_alloc | apply pw_below_drewN | apply below_drew1) | exact HB.out)) hb); clear HB; have HB := n0_; clear n0_; (try clear hb); (try clear hb2); (try clear hk); (try clear hi)) | ((with_reducible refine gate_callee (f := 14) rfl ?_); refine goesL_ (some 38) rfl rfl Try.func14 (by kernel_rfl) rfl #[.slice A0 l0.length c0] rfl (by (try simp only [List.map_toArray, List.map_cons, List.map_nil]); first | done | rfl | (simp only [List.length_drop, List.length_take]; rfl)) ?_; (with_reducible refine (cofferlaw05_own.calls k _ _ l0 t231 t232 _ ?side1 ?side2 A8.out).mono ?_); (case side1 => repeat (first | exact (Kd.C_below HR0.out HB.out) | (with_reducible refine Kd.C_alloc ?_ _) | (with_reducible refine Kd.C_drewN ?_ _) | (with_reducible refine Kd.C_drew ?_))); (case side2 => exact HC0.out); rintro e w28 ⟨v233, v235, rfl, ho0, ho1, hb⟩; refine ⟨_, rfl, ?_⟩; have n0_ := Aside0.mk (Kd.R_lower ho0 (below_size (by repeat (first | (with_reducible first | exact HB.out | apply below_alloc | apply pw_below_drewN | apply below_drew1) | exact HB.out)))); have n1_ := Aside0.mk (Kd.R_lower ho1 (below_size (by repeat (first | (with_reducible first | exact HB.out | apply below_alloc | apply pw_below_drewN | apply below_drew1) | exact HB.out)))); have n2_ := Aside0.mk (below_step (by repeat (first | (with_reducible first | exact HB.out | apply below_alloc | apply pw_below_drewN | apply below_drew1) | exact HB.out)) hb); clear HB; have HO234 := n0_; have HO236 := n1_; have HB := n2_; clear n0_ n1_ n2_; (try clear hb); (try clear hb2); (try clear hk); (try clear hi); (try clear ho0); (try clear ho1)) | ((with_reducible refine gate_callee (f := 14) rfl ?_); refine goesL_ (some 43) rfl rfl Try.func14 (by kernel_rfl) rfl #[.slice A1 l1.length c1] rfl (by (try simp only [List.map_toArray, List.map_cons, List.map_nil]); first | done | rfl | (simp only [List.length_drop, List.length_take]; rfl)) ?_; (with_reducible refine (cofferlaw05_own.calls k _ _ l1 t237 t238 _ ?side1 ?side2 A9.out).mono ?_); (case side1 => repeat (first | exact (Kd.C_below HR1.out HB.out) | (with_reducible refine Kd.C_alloc ?_ _) | (with_reducible refine Kd.C_drewN ?_ _) | (with_reducible refine Kd.C_drew ?_))); (case side2 => exact HC1.out); rintro e w29 ⟨v239, v241, rfl, ho0, ho1, hb⟩; refine ⟨_, rfl, ?_⟩; have n0_ := Aside0.mk (Kd.R_mono (Kd.R_told (Kd.R_told (Kd.R_old (by (with_reducible repeat (first | apply Kd.R_alloc | apply Kd.R_drewN | apply Kd.R_drew)); exact HO234.out) hb) (Kd.R_base ho0)) (Kd.R_base ho1)) (fun _ h_ => h_.1)); have n1_ := Aside0.mk (Kd.R_mono (Kd.R_told (Kd.R_told (Kd.R_old (by (with_reducible repeat (first | apply Kd.R_alloc | apply Kd.R_drewN | apply Kd.R_drew)); exact HO236.out) hb) (Kd.R_base ho0)) (Kd.R_base ho1)) (fun _ h_ => h_.1)); have n2_ := Aside0.mk (Kd.R_lower (Kd.R_new' (Kd.R_new' ho0 (Kd.R_lt (by (with_reducible repeat (first | apply Kd.R_alloc | apply Kd.R_drewN | apply Kd.R_drew)); exact HO234.out))) (Kd.R_lt (by (with_reducible repeat (first | apply Kd.R_alloc | apply Kd.R_drewN | apply Kd.R_drew)); exact HO236.out))) (below_size (by repeat (first | (with_reducible first | exact HB.out | apply below_alloc | apply pw_below_drewN | apply below_drew1) | exact HB.out)))); have n3_ := Aside0.mk (Kd.R_lower (Kd.R_new' (Kd.R_new' ho1 (Kd.R_lt (by (with_reducible repeat (first | apply Kd.R_alloc | apply Kd.R_drewN | apply Kd.R_drew)); exact HO234.out))) (Kd.R_lt (by (with_reducible repeat (first | apply Kd.R_alloc | apply Kd.R_drewN | apply Kd.R_drew)); exact HO236.out))) (below_size (by repeat (first | (with_reducible first | exact HB.out | apply below_alloc | apply pw_below_drewN | apply below_drew1) | exact HB.out)))); have n4_ := Aside0.mk (below_step (by repeat (first | (with_reducible first | exact HB.out | apply below_alloc | apply pw_below_drewN | apply below_drew1) | exact HB.out)) hb); clear HO234; clear HO236; clear HB; have HO234 := n0_; have HO236 := n1_; have HO240 := n2_; have HO242 := n3_; have HB := n4_; clear n0_ n1_ n2_ n3_ n4_; (try clear hb); (try clear hb2); (try clear hk); (try clear hi); (try clear ho0); (try clear ho1); obtain ⟨Ao30, co30, eo30⟩ := Kd.R_slice HO234.out; subst eo30) | ((with_reducible refine gate_callee (f := 15) rfl ?_); refine goesL_ (some 48) rfl rfl Try.func15 (by kernel_rfl) rfl #[.slice Ao30 t231.length co30] rfl (by (try simp only [List.map_toArray, List.map_cons, List.map_nil]); first | done | rfl | (simp only [List.length_drop, List.length_take]; rfl)) ?_; (with_reducible refine (tuple_Write.calls _ _ t231 t243 t244 _ ?side1 ?side2 A10.out).mono ?_); (case side1 => repeat (first | exact (Kd.R_reads' HO234.out).2.2 | (with_reducible refine Kd.C_alloc ?_ _) | (with_reducible refine Kd.C_drewN ?_ _) | (with_reducible refine Kd.C_drew ?_))); (case side2 => exact (Kd.R_reads' HO234.out).2.1); rintro e w31 ⟨rfl, hb⟩; refine ⟨_, rfl, ?_⟩; have n0_ := Aside0.mk (Kd.R_below (by (with_reducible repeat (first | apply Kd.R_alloc | apply Kd.R_drewN | apply Kd.R_drew)); exact HO234.out) hb); have n1_ := Aside0.mk (Kd.R_below (by (with_reducible repeat (first | apply Kd.R_alloc | apply Kd.R_drewN | apply Kd.R_drew)); exact HO236.out) hb); have n2_ := Aside0.mk (Kd.R_below (by (with_reducible repeat (first | apply Kd.R_alloc | apply Kd.R_drewN | apply Kd.R_drew)); exact HO240.out) hb); have n3_ := Aside0.mk (Kd.R_below (by (with_reducible repeat (first | apply Kd.R_alloc | apply Kd.R_drewN | apply Kd.R_drew)); exact HO242.out) hb); have n4_ := Aside0.mk (below_step (by repeat (first | (with_reducible first | exact HB.out | apply below_alloc | apply pw_below_drewN | apply below_drew1) | exact HB.out)) hb); clear HO234; clear HO236; clear HO240; clear HO242; clear HB; have HO234 := n0_; have HO236 := n1_; have HO240 := n2_; have HO242 := n3_; have HB := n4_; clear n0_ n1_ n2_ n3_ n4_; (try clear hb); (try clear hb2); (try clear hk); (try clear hi)) | ((with_reducible refine gate_callee (f := 16) rfl ?_); refine goesL_ (some 53) rfl rfl Try.func16 (by kernel_rfl) rfl #[.slice Ao30 t231.length co30] rfl (by (try simp only [List.map_toArray, List.map_cons, List.map_nil]); first | done | rfl | (simp only [List.length_drop, List.length_take]; rfl)) ?_; (with_reducible refine (tuple_Limits.calls _ _ t231 t245 t246 t247 _ ?side1 ?side2 A11.out).mono ?_); (case side1 => repeat (first | exact (Kd.R_reads' HO234.out).2.2 | (with_reducible refine Kd.C_alloc ?_ _) | (with_reducible refine Kd.C_drewN ?_ _) | (with_reducible refine Kd.C_drew ?_))); (case side2 => exact (Kd.R_reads' HO234.out).2.1); rintro e w32 ⟨rfl, hb⟩; refine ⟨_, rfl, ?_⟩; have n0_ := Aside0.mk (Kd.R_below (by (with_reducible repeat (first | apply Kd.R_alloc | apply Kd.R_drewN | apply Kd.R_drew)); exact HO234.out) hb); have n1_ := Aside0.mk (Kd.R_below (by (with_reducible repeat (first | apply Kd.R_alloc | apply Kd.R_drewN | apply Kd.R_drew)); exact HO236.out) hb); have n2_ := Aside0.mk (Kd.R_below (by (with_reducible repeat (first | apply Kd.R_alloc | apply Kd.R_drewN | apply Kd.R_drew)); exact HO240.out) hb); have n3_ := Aside0.mk (Kd.R_below (by (with_reducible repeat (first | apply Kd.R_alloc | apply Kd.R_drewN | apply Kd.R_drew)); exact HO242.out) hb); have n4_ := Aside0.mk (below_step (by repeat (first | (with_reducible first | exact HB.out | apply below_alloc | apply pw_below_drewN | apply below_drew1) | exact HB.out)) hb); clear HO234; clear HO236; clear HO240; clear HO242; clear HB; have HO234 := n0_; have HO236 := n1_; have HO240 := n2_; have HO242 := n3_; have HB := n4_; clear n0_ n1_ n2_ n3_ n4_; (try clear hb); (try clear hb2); (try clear hk); (try clear hi); obtain ⟨Ao33, co33, eo33⟩ := Kd.R_slice HO240.out; subst eo33) | (go_at_call 17; (with_reducible refine (tuple_Compare.calls k _ _ t231 _ _ t237 t248 _ ?side1 ?side2 ?side3 ?side4 A17.out).mono ?_); (case side1 => repeat (first | exact (Kd.R_reads' HO234.out).2.2 | (with_reducible refine Kd.C_alloc ?_ _) | (with_reducible refine Kd.C_drewN ?_ _) | (with_reducible refine Kd.C_drew ?_))); (case side2 => exact (Kd.R_reads' HO234.out).2.1); (case side3 => repeat (first | exact (Kd.R_reads' HO240.out).2.2 | (with_reducible refine Kd.C_alloc ?_ _) | (with_reducible refine Kd.C_drewN ?_ _) | (with_reducible refine Kd.C_drew ?_))); (case side4 => exact (Kd.R_reads' HO240.out).2.1); rintro e w34 ⟨rfl, hb⟩; have n0_ := Aside0.mk (Kd.R_below (by (with_reducible repeat (first | apply Kd.R_alloc | apply Kd.R_drewN | apply Kd.R_drew)); exact HO234.out) hb); have n1_ := Aside0.mk (Kd.R_below (by (with_reducible repeat (first | apply Kd.R_alloc | apply Kd.R_drewN | apply Kd.R_drew)); exact HO236.out) hb); have n2_ := Aside0.mk (Kd.R_below (by (with_reducible repeat (first | apply Kd.R_alloc | apply Kd.R_drewN | apply Kd.R_drew)); exact HO240.out) hb); have n3_ := Aside0.mk (Kd.R_below (by (with_reducible repeat (first | apply Kd.R_alloc | apply Kd.R_drewN | apply Kd.R_drew)); exact HO242.out) hb); have n4_ := Aside0.mk (below_step (by repeat (first | (with_reducible first | exact HB.out | apply below_alloc | apply pw_below_drewN | apply below_drew1) | exact HB.out)) hb); clear HO234; clear HO236; clear HO240; clear HO242; clear HB; have HO234 := n0_; have HO236 := n1_; have HO240 := n2_; have HO242 := n3_; have HB := n4_; clear n0_ n1_ n2_ n3_ n4_; (try clear hb); (try clear hb2); (try clear hk); (try clear hi)) | (go_at_call 17; (with_reducible refine (tuple_Compare.calls k _ _ t237 _ _ t231 t249 _ ?side1 ?side2 ?side3 ?side4 A19.out).mono ?_); (case side1 => repeat (first | exact (Kd.R_reads' HO240.out).2.2 | (with_reducible refine Kd.C_alloc ?_ _) | (with_reducible refine Kd.C_drewN ?_ _) | (with_reducible refine Kd.C_drew ?_))); (case side2 => exact (Kd.R_reads' HO240.out).2.1); (case side3 => repeat (first | exact (Kd.R_reads' HO234.out).2.2 | (with_reducible refine Kd.C_alloc ?_ _) | (with_reducible refine Kd.C_drewN ?_ _) | (with_reducible refine Kd.C_drew ?_))); (case side4 => exact (Kd.R_reads' HO234.out).2.1); rintro e w35 ⟨rfl, hb⟩; have n0_ := Aside0.mk (Kd.R_below (by (with_reducible repeat (first | apply Kd.R_alloc | apply Kd.R_drewN | apply Kd.R_drew)); exact HO234.out) hb); have n1_ := Aside0.mk (Kd.R_below (by (with_reducible repeat (first | apply Kd.R_alloc | apply Kd.R_drewN | apply Kd.R_drew)); exact HO236.out) hb); have n2_ := Aside0.mk (Kd.R_below (by (with_reducible repeat (first | apply Kd.R_alloc | apply Kd.R_drewN | apply Kd.R_drew)); exact HO240.out) hb); have n3_ := Aside0.mk (Kd.R_below (by (with_reducible repeat (first | apply Kd.R_alloc | apply Kd.R_drewN | apply Kd.R_drew)); exact HO242.out) hb); have n4_ := Aside0.mk (below_step (by repeat (first | (with_reducible first | exact HB.out | apply below_alloc | apply pw_below_drewN | apply below_drew1) | exact HB.out)) hb); clear HO234; clear HO236; clear HO240; clear HO242; clear HB; have HO234 := n0_; have HO236 := n1_; have HO240 := n2_; have HO242 := n3_; have HB := n4_; clear n0_ n1_ n2_ n3_ n4_; (try clear hb); (try clear hb2); (try clear hk); (try clear hi); obtain ⟨Ao36, co36, eo36⟩ := Kd.R_slice HO236.out; subst eo36) | (go_at_call 18; (with_reducible refine (cofferlaw05_stays.calls k _ _ t232 _ _ l0 true _ ?side1 ?side2 ?side3 ?side4 A21.out).mono ?_); (case side1 => repeat (first | exact (Kd.R_reads' HO236.out).2.2 | (with_reducible refine Kd.C_alloc ?_ _) | (with_reducible refine Kd.C_drewN ?_ _) | (with_reducible refine Kd.C_drew ?_))); (case side2 => exact (Kd.R_reads' HO236.out).2.1); (case side3 => repeat (first | exact (Kd.C_below HR0.out HB.out) | (with_reducible refine Kd.C_alloc ?_ _) | (with_reducible refine Kd.C_drewN ?_ _) | (with_reducible refine Kd.C_drew ?_))); (case side4 => exact HC0.out); rintro e w' ⟨rfl, ⟨nd, rfl⟩⟩; obtain ⟨Ao37, co37, eo37⟩ := Kd.R_slice HO242.out; subst eo37) | (go_at_call 18; (with_reducible refine (cofferlaw05_stays.calls k _ _ t238 _ _ l1 t251 _ ?side1 ?side2 ?side3 ?side4 A23.out).mono ?_); (case side1 => repeat (first | exact (Kd.R_reads' HO242.out).2.2 | (with_reducible refine Kd.C_alloc ?_ _) | (with_reducible refine Kd.C_drewN ?_ _) | (with_reducible refine Kd.C_drew ?_))); (case side2 => exact (Kd.R_reads' HO242.out).2.1); (case side3 => repeat (first | exact (Kd.C_below HR1.out (by repeat (first | (with_reducible first | exact HB.out | apply below_alloc | apply pw_below_drewN | apply below_drew1) | exact HB.out))) | (with_reducible refine Kd.C_alloc ?_ _) | (with_reducible refine Kd.C_drewN ?_ _) | (with_reducible refine Kd.C_drew ?_))); (case side4 => exact HC1.out); rintro e w' ⟨rfl, ⟨nd, rfl⟩⟩))
                    go_ret
                    exact ⟨by first | rfl | (simp [errW_none, errW_some] <;> rfl) | (simp [*, errW_none, errW_some] <;> rfl), by repeat (first | (with_reducible first | exact HB.out | apply below_alloc | apply pw_below_drewN | apply below_drew1) | exact HB.out)⟩
                  · replace c22 := Bool.eq_false_iff.mpr c22
                    subst c22
                    have H1 : (none) = some r := by rw [if_neg (show ¬ (false = true) by decide)] at H; exact H
                    clear H
                    have H := H1
                    clear H1
                    exact absurd H (by simp)
                · rw [if_neg c20] at H
                  exact absurd H (by simp)
              · rw [if_neg c18] at H
                exact absurd H (by simp)
            · rw [if_neg c16] at H
              exact absurd H (by simp)
          · rw [if_neg c15] at H
            exact absurd H (by simp)
        · rw [if_neg c14] at H
          exact absurd H (by simp)
      · rw [if_neg c13] at H
        exact absurd H (by simp)
    · rw [if_neg c12] at H
      exact absurd H (by simp)
  · replace c4 := Bool.eq_false_iff.mpr c4
    subst c4
    have H1 : (none) = some r := by rw [if_neg (show ¬ (false = true) by decide)] at H; exact H
    clear H
    have H := H1
    clear H1
    exact absurd H (by simp)

end Go.Proofs.Ytbohpjbcjnapfaa.X
