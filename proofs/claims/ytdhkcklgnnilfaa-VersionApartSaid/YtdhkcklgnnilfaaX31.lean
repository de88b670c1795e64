-- By a program of this session (wip/xprint.py over the kit's print).
import Derived.Test.YtdhkcklgnnilfaaX0
import Derived.Test.YtdhkcklgnnilfaaX9
import Derived.Test.YtdhkcklgnnilfaaX17
import Derived.Test.YtdhkcklgnnilfaaX21
import Derived.Test.YtdhkcklgnnilfaaX23
import Derived.Test.YtdhkcklgnnilfaaX31d
namespace Go.Proofs.Ytdhkcklgnnilfaa.X
open Go.RowKit Go.Proofs.YtdhkcklgnnilfaaW.PrintWords Go.Proofs.YtdhkcklgnnilfaaW.PrintLast Go.Proofs.YtdhkcklgnnilfaaW.PrintMore
attribute [local go_sem] Go.Proofs.Ytdhkcklgnnilfaa.Z.leq_string Go.Proofs.Ytdhkcklgnnilfaa.Z.gtr_string Go.Proofs.Ytdhkcklgnnilfaa.Z.geq_string   -- for this text's walks alone
set_option linter.unusedVariables false
set_option linter.unusedSimpArgs false

set_option maxHeartbeats 8000000 in
set_option maxRecDepth 100000 in
theorem cofferlaw13_VersionApart.calls (k : Nat) (a0_0 : ByteArray) (a0_1 : Int) (a0_2 : Bool) (a0_3 : ByteArray) (A0_4 : Option Addr) (c0_4 : Nat) (l0_4 : List (S31)) (a1_0 : ByteArray) (a1_1 : Int) (a1_2 : Bool) (a1_3 : ByteArray) (A1_4 : Option Addr) (c1_4 : Nat) (l1_4 : List (S31)) (r : Bool) (w : World) (hr0_4 : Kd.C k31 w A0_4 l0_4.length l0_4) (hc0_4 : l0_4.length ≤ c0_4) (hr1_4 : Kd.C k31 w A1_4 l1_4.length l1_4) (hc1_4 : l1_4.length ≤ c1_4) (h : cofferlaw13_VersionApart.f k a0_0 a0_1 a0_2 a0_3 l0_4 a1_0 a1_1 a1_2 a1_3 l1_4 = some r) :
 Calls Try.prog 7 #[.agg #[.string a0_0, .int .i64 a0_1, .bool a0_2, .string a0_3, .slice A0_4 l0_4.length c0_4], .agg #[.string a1_0, .int .i64 a1_1, .bool a1_2, .string a1_3, .slice A1_4 l1_4.length c1_4]] w fun e w' => e = .returned (.bool r) ∧ Below w.heap.size w w' := by
 have hu24 := Try.underlying24
 have hu31 := Try.underlying31
 have HR0_4 := Aside0.mk hr0_4
 have HC0_4 := Aside0.mk hc0_4
 clear hr0_4 hc0_4
 have HR1_4 := Aside0.mk hr1_4
 have HC1_4 := Aside0.mk hc1_4
 clear hr1_4 hc1_4
 have HB := Aside0.mk (Below.refl w.heap.size w)
 have H : ((version_Write.f k a0_0 a0_1 a0_2 a0_3 l0_4).bind fun bt460 => ((version_Write.f k a1_0 a1_1 a1_2 a1_3 l1_4).bind fun bt462 => ((cofferlaw13_first.f k).bind fun t464 => (if t464 = true then (if bt460.2 = 0 then (cofferlaw13_VersionApart.j0 k bt460.1 bt462.1 (bt462.2 != 0) a0_0 a0_1 a0_2 a0_3 l0_4 a1_0 a1_1 a1_2 a1_3 l1_4) else (cofferlaw13_VersionApart.j0 k bt460.1 bt462.1 true a0_0 a0_1 a0_2 a0_3 l0_4 a1_0 a1_1 a1_2 a1_3 l1_4)) else (none))))) = some r := h
 clear h
 replace H := Option.bind_eq_some_iff.mp H
 obtain ⟨⟨t460, t461⟩, A30, H⟩ := H
 replace H : ((version_Write.f k a1_0 a1_1 a1_2 a1_3 l1_4).bind fun bt462 => ((cofferlaw13_first.f k).bind fun t464 => (if t464 = true then (if t461 = 0 then (cofferlaw13_VersionApart.j0 k t460 bt462.1 (bt462.2 != 0) a0_0 a0_1 a0_2 a0_3 l0_4 a1_0 a1_1 a1_2 a1_3 l1_4) else (cofferlaw13_VersionApart.j0 k t460 bt462.1 true a0_0 a0_1 a0_2 a0_3 l0_4 a1_0 a1_1 a1_2 a1_3 l1_4)) else (none)))) = some r := H
 have A3 := Aside0.mk A30
 clear A30
 replace H := Option.bind_eq_some_iff.mp H
 obtain ⟨⟨t462, t463⟩, A40, H⟩ := H
 replace H : ((cofferlaw13_first.f k).bind fun t464 => (if t464 = true then (if t461 = 0 then (cofferlaw13_VersionApart.j0 k t460 t462 (t463 != 0) a0_0 a0_1 a0_2 a0_3 l0_4 a1_0 a1_1 a1_2 a1_3 l1_4) else (cofferlaw13_VersionApart.j0 k t460 t462 true a0_0 a0_1 a0_2 a0_3 l0_4 a1_0 a1_1 a1_2 a1_3 l1_4)) else (none))) = some r := H
 have A4 := Aside0.mk A40
 clear A40
 replace H := Option.bind_eq_some_iff.mp H
 obtain ⟨t464, A50, H⟩ := H
 replace H : (if t464 = true then (if t461 = 0 then (cofferlaw13_VersionApart.j0 k t460 t462 (t463 != 0) a0_0 a0_1 a0_2 a0_3 l0_4 a1_0 a1_1 a1_2 a1_3 l1_4) else (cofferlaw13_VersionApart.j0 k t460 t462 true a0_0 a0_1 a0_2 a0_3 l0_4 a1_0 a1_1 a1_2 a1_3 l1_4)) else (none)) = some r := H
 have A5 := Aside0.mk A50
 clear A50
 by_cases c6 : t464 = true
 ·subst c6
  have H1 : (if t461 = 0 then (cofferlaw13_VersionApart.j0 k t460 t462 (t463 != 0) a0_0 a0_1 a0_2 a0_3 l0_4 a1_0 a1_1 a1_2 a1_3 l1_4) else (cofferlaw13_VersionApart.j0 k t460 t462 true a0_0 a0_1 a0_2 a0_3 l0_4 a1_0 a1_1 a1_2 a1_3 l1_4)) = some r := by rw [if_pos rfl] at H; exact H
  clear H
  have H := H1
  clear H1
  have HC7 := Aside0.mk H
  clear H
  go_enter Try.func7, Try.ntmps7
  go_upto_region 5 with (first | ((with_reducible refine gate_dst (N := 2) rfl ?_); (try (refine gate_guard (by rfl) ?_; dsimp only)); refine box_event ?hg (N := 2) ?hd (cs := #[.string a0_0, .int .i64 a0_1, .bool a0_2, .string a0_3, .slice A0_4 l0_4.length c0_4]) (t := 24) ?hr ?_; (case hd => rfl); (case hg => rfl); (case hr => first | (go_simp; done) | (go_simp; rfl)); intro gb458 hg w8 hbox hb; have n0_ := Aside0.mk (below_step (by repeat (first | (with_reducible first | exact HB.out | apply below_alloc | apply pw_below_drewN | apply below_drew1) | exact HB.out)) hb); have n1_ := Aside0.mk (hbox); have n2_ := Aside0.mk ((by rw [hg]; exact (below_size (by repeat (first | (with_reducible first | exact HB.out | apply below_alloc | apply pw_below_drewN | apply below_drew1) | exact HB.out))) : w.heap.size ≤ gb458)); have n3_ := Aside0.mk ((by rw [hg]; exact (below_size (by repeat (first | (with_reducible first | exact HB.out | apply below_alloc | apply pw_below_drewN | apply below_drew1) | exact HB.out))) : w.heap.size ≤ gb458)); clear HB; have HB := n0_; have BK458 := n1_; have GW458 := n2_; have GE458 := n3_; clear n0_ n1_ n2_ n3_; clear hb hbox hg) | ((with_reducible refine gate_dst (N := 3) rfl ?_); (try (refine gate_guard (by rfl) ?_; dsimp only)); refine box_event ?hg (N := 3) ?hd (cs := #[.string a1_0, .int .i64 a1_1, .bool a1_2, .string a1_3, .slice A1_4 l1_4.length c1_4]) (t := 24) ?hr ?_; (case hd => rfl); (case hg => rfl); (case hr => first | (go_simp; done) | (go_simp; rfl)); intro gb459 hg w9 hbox hb; have n0_ := Aside0.mk (blk_below (g := gb458) (o := .cells #[.string a0_0, .int .i64 a0_1, .bool a0_2, .string a0_3, .slice A0_4 l0_4.length c0_4] 24 (0, 0)) (by (with_reducible repeat (first | refine blk_drewN ?_ _ | refine blk_drew ?_ | refine blk_alloc ?_ _)); exact BK458.out) hb); have n1_ := Aside0.mk (below_step (by repeat (first | (with_reducible first | exact HB.out | apply below_alloc | apply pw_below_drewN | apply below_drew1 | refine below_set ?_ GE458.out) | exact HB.out)) hb); have n2_ := Aside0.mk (hbox); have n3_ := Aside0.mk ((by rw [hg]; exact (below_size (by repeat (first | (with_reducible first | exact HB.out | apply below_alloc | apply pw_below_drewN | apply below_drew1 | refine below_set ?_ GE458.out) | exact HB.out))) : w.heap.size ≤ gb459)); have n4_ := Aside0.mk ((by rw [hg]; exact (below_size (by repeat (first | (with_reducible first | exact HB.out | apply below_alloc | apply pw_below_drewN | apply below_drew1 | refine below_set ?_ GE458.out) | exact HB.out))) : w.heap.size ≤ gb459)); have n5_ := Aside0.mk ((by rw [hg]; exact Nat.ne_of_lt (blk_lt (g := gb458) (o := .cells #[.string a0_0, .int .i64 a0_1, .bool a0_2, .string a0_3, .slice A0_4 l0_4.length c0_4] 24 (0, 0)) (by (with_reducible repeat (first | refine blk_drewN ?_ _ | refine blk_drew ?_ | refine blk_alloc ?_ _)); exact BK458.out)) : gb458 ≠ gb459)); have n6_ := Aside0.mk ((by rw [hg]; exact Nat.ne_of_gt (blk_lt (g := gb458) (o := .cells #[.string a0_0, .int .i64 a0_1, .bool a0_2, .string a0_3, .slice A0_4 l0_4.length c0_4] 24 (0, 0)) (by (with_reducible repeat (first | refine blk_drewN ?_ _ | refine blk_drew ?_ | refine blk_alloc ?_ _)); exact BK458.out)) : gb459 ≠ gb458)); clear BK458; clear HB; have BK458 := n0_; have HB := n1_; have BK459 := n2_; have GW459 := n3_; have GE459 := n4_; have NB458_459 := n5_; have NB459_458 := n6_; clear n0_ n1_ n2_ n3_ n4_ n5_ n6_; clear hb hbox hg; have hnb10 := NB458_459.out; have hnc10 := NB459_458.out; have hcz11_0 : w9.cell? ⟨gb458, 0, none⟩ = some (.string a0_0) := (blk_cell BK458.out 0).trans rfl; have hcz11_1 : w9.cell? ⟨gb458, 1, none⟩ = some (.int .i64 a0_1) := (blk_cell BK458.out 1).trans rfl; have hcz11_2 : w9.cell? ⟨gb458, 2, none⟩ = some (.bool a0_2) := (blk_cell BK458.out 2).trans rfl; have hcz11_3 : w9.cell? ⟨gb458, 3, none⟩ = some (.string a0_3) := (blk_cell BK458.out 3).trans rfl; have hcz11_4 : w9.cell? ⟨gb458, 4, none⟩ = some (.slice A0_4 l0_4.length c0_4) := (blk_cell BK458.out 4).trans rfl; have hfz11_0 := blk_frozen BK458.out 0; have hfz11_1 := blk_frozen BK458.out 1; have hfz11_2 := blk_frozen BK458.out 2; have hfz11_3 := blk_frozen BK458.out 3; have hfz11_4 := blk_frozen BK458.out 4) | ((with_reducible refine gate_callee (f := 9) rfl ?_); refine goesL_ (some 24) rfl rfl Try.func9 (by kernel_rfl) rfl #[.agg #[.string a0_0, .int .i64 a0_1, .bool a0_2, .string a0_3, .slice A0_4 l0_4.length c0_4]] rfl (by (try simp only [List.map_toArray, List.map_cons, List.map_nil]); first | done | rfl | (simp only [List.length_drop, List.length_take]; rfl)) ?_; (with_reducible refine (version_Write.calls k a0_0 a0_1 a0_2 a0_3 _ _ l0_4 t460 t461 _ ?side1 ?side2 A3.out).mono ?_); (case side1 => repeat (first | exact (Kd.C_below HR0_4.out HB.out) | (with_reducible refine Kd.C_alloc ?_ _) | (with_reducible refine Kd.C_drewN ?_ _) | (with_reducible refine Kd.C_drew ?_))); (case side2 => exact HC0_4.out); rintro e w12 ⟨rfl, hb⟩; refine ⟨_, rfl, ?_⟩; have n0_ := Aside0.mk (blk_below (g := gb458) (o := .cells #[.string a0_0, .int .i64 a0_1, .bool a0_2, .string a0_3, .slice A0_4 l0_4.length c0_4] 24 (0, 0)) (by (with_reducible repeat (first | refine blk_drewN ?_ _ | refine blk_drew ?_ | refine blk_alloc ?_ _)); exact BK458.out) hb); have n1_ := Aside0.mk (blk_below (g := gb459) (o := .cells #[.string a1_0, .int .i64 a1_1, .bool a1_2, .string a1_3, .slice A1_4 l1_4.length c1_4] 24 (0, 0)) (by (with_reducible repeat (first | refine blk_drewN ?_ _ | refine blk_drew ?_ | refine blk_alloc ?_ _)); exact BK459.out) hb); have n2_ := Aside0.mk (below_step (by repeat (first | (with_reducible first | exact HB.out | apply below_alloc | apply pw_below_drewN | apply below_drew1 | refine below_set ?_ GE458.out | refine below_set ?_ GE459.out) | exact HB.out)) hb); clear BK458; clear BK459; clear HB; have BK458 := n0_; have BK459 := n1_; have HB := n2_; clear n0_ n1_ n2_; (try clear hb); (try clear hb2); (try clear hk); (try clear hi); have hcz13_0 : w12.cell? ⟨gb459, 0, none⟩ = some (.string a1_0) := (blk_cell BK459.out 0).trans rfl; have hcz13_1 : w12.cell? ⟨gb459, 1, none⟩ = some (.int .i64 a1_1) := (blk_cell BK459.out 1).trans rfl; have hcz13_2 : w12.cell? ⟨gb459, 2, none⟩ = some (.bool a1_2) := (blk_cell BK459.out 2).trans rfl; have hcz13_3 : w12.cell? ⟨gb459, 3, none⟩ = some (.string a1_3) := (blk_cell BK459.out 3).trans rfl; have hcz13_4 : w12.cell? ⟨gb459, 4, none⟩ = some (.slice A1_4 l1_4.length c1_4) := (blk_cell BK459.out 4).trans rfl; have hfz13_0 := blk_frozen BK459.out 0; have hfz13_1 := blk_frozen BK459.out 1; have hfz13_2 := blk_frozen BK459.out 2; have hfz13_3 := blk_frozen BK459.out 3; have hfz13_4 := blk_frozen BK459.out 4) | ((with_reducible refine gate_callee (f := 9) rfl ?_); refine goesL_ (some 29) rfl rfl Try.func9 (by kernel_rfl) rfl #[.agg #[.string a1_0, .int .i64 a1_1, .bool a1_2, .string a1_3, .slice A1_4 l1_4.length c1_4]] rfl (by (try simp only [List.map_toArray, List.map_cons, List.map_nil]); first | done | rfl | (simp only [List.length_drop, List.length_take]; rfl)) ?_; (with_reducible refine (version_Write.calls k a1_0 a1_1 a1_2 a1_3 _ _ l1_4 t462 t463 _ ?side1 ?side2 A4.out).mono ?_); (case side1 => repeat (first | exact (Kd.C_below HR1_4.out HB.out) | (with_reducible refine Kd.C_alloc ?_ _) | (with_reducible refine Kd.C_drewN ?_ _) | (with_reducible refine Kd.C_drew ?_))); (case side2 => exact HC1_4.out); rintro e w14 ⟨rfl, hb⟩; refine ⟨_, rfl, ?_⟩; have n0_ := Aside0.mk (blk_below (g := gb458) (o := .cells #[.string a0_0, .int .i64 a0_1, .bool a0_2, .string a0_3, .slice A0_4 l0_4.length c0_4] 24 (0, 0)) (by (with_reducible repeat (first | refine blk_drewN ?_ _ | refine blk_drew ?_ | refine blk_alloc ?_ _)); exact BK458.out) hb); have n1_ := Aside0.mk (blk_below (g := gb459) (o := .cells #[.string a1_0, .int .i64 a1_1, .bool a1_2, .string a1_3, .slice A1_4 l1_4.length c1_4] 24 (0, 0)) (by (with_reducible repeat (first | refine blk_drewN ?_ _ | refine blk_drew ?_ | refine blk_alloc ?_ _)); exact BK459.out) hb); have n2_ := Aside0.mk (below_step (by repeat (first | (with_reducible first | exact HB.out | apply below_alloc | apply pw_below_drewN | apply below_drew1 | refine below_set ?_ GE458.out | refine below_set ?_ GE459.out) | exact HB.out)) hb); clear BK458; clear BK459; clear HB; have BK458 := n0_; have BK459 := n1_; have HB := n2_; clear n0_ n1_ n2_; (try clear hb); (try clear hb2); (try clear hk); (try clear hi)) | ((with_reducible refine gate_callee (f := 12) rfl ?_); refine goesL_ (some 32) rfl rfl Try.func12 (by kernel_rfl) rfl #[] rfl (by (try simp only [List.map_toArray, List.map_cons, List.map_nil]); first | done | rfl | (simp only [List.length_drop, List.length_take]; rfl)) ?_; (with_reducible refine (cofferlaw13_first.calls k  true _ A5.out).mono ?_); rintro e w15 ⟨rfl, hb⟩; refine ⟨_, rfl, ?_⟩; have n0_ := Aside0.mk (blk_below (g := gb458) (o := .cells #[.string a0_0, .int .i64 a0_1, .bool a0_2, .string a0_3, .slice A0_4 l0_4.length c0_4] 24 (0, 0)) (by (with_reducible repeat (first | refine blk_drewN ?_ _ | refine blk_drew ?_ | refine blk_alloc ?_ _)); exact BK458.out) hb); have n1_ := Aside0.mk (blk_below (g := gb459) (o := .cells #[.string a1_0, .int .i64 a1_1, .bool a1_2, .string a1_3, .slice A1_4 l1_4.length c1_4] 24 (0, 0)) (by (with_reducible repeat (first | refine blk_drewN ?_ _ | refine blk_drew ?_ | refine blk_alloc ?_ _)); exact BK459.out) hb); have n2_ := Aside0.mk (below_step (by repeat (first | (with_reducible first | exact HB.out | apply below_alloc | apply pw_below_drewN | apply below_drew1 | refine below_set ?_ GE458.out | refine below_set ?_ GE459.out) | exact HB.out)) hb); clear BK458; clear BK459; clear HB; have BK458 := n0_; have BK459 := n1_; have HB := n2_; clear n0_ n1_ n2_; (try clear hb); (try clear hb2); (try clear hk); (try clear hi)))
  (try simp only [Act.put, List.setIfInBounds_toArray, List.set_cons_zero, List.set_cons_succ])
  go_cut [39] (fun v39 wc => ∃ (kq : Nat) (x39_6 : Bool), v39 = .bool x39_6 ∧ Aside0 (cofferlaw13_VersionApart.j0 kq t460 t462 x39_6 a0_0 a0_1 a0_2 a0_3 l0_4 a1_0 a1_1 a1_2 a1_3 l1_4 = some r) ∧ Aside0 (kq ≤ k) ∧ Aside0 (wc.heap[gb458]? = some (.cells #[.string a0_0, .int .i64 a0_1, .bool a0_2, .string a0_3, (.slice A0_4 l0_4.length c0_4)] 24 (0, 0))) ∧ Aside0 (wc.heap[gb459]? = some (.cells #[.string a1_0, .int .i64 a1_1, .bool a1_2, .string a1_3, (.slice A1_4 l1_4.length c1_4)] 24 (0, 0))) ∧ Aside0 (Below w.heap.size w wc))
  case first =>
   have H := HC7.out
   clear HC7
   by_cases c16 : t461 = 0
   ·rw [if_pos c16] at H
    have c16b0 : (t461 == 0) = true := beq_iff_eq.mpr c16
    have c16b1 : (t461 != 0) = false := bne_eq_false_iff_eq.mpr c16
    clear c16
    (first | rw [c16b0] | (simp only [i64_w, i32_w]; rw [c16b0]) | rw [c16b1] | skip)
    have H' := Aside0.mk H
    clear H
    go_wp2
    go_meet
    case rel => exact ⟨_, ((t463 != 0)), (by first | rfl | (simp; done) | (simp [Go.Proofs.Ytdhkcklgnnilfaa.Z.bne_nil, Go.Proofs.Ytdhkcklgnnilfaa.Z.beq_nil]; done) | (simp [*]; done)), H', ⟨by first | omega | exact Nat.le_refl _⟩, ⟨by (with_reducible repeat (first | refine blk_drewN ?_ _ | refine blk_drew ?_ | refine blk_alloc ?_ _)); exact BK458.out⟩, ⟨by (with_reducible repeat (first | refine blk_drewN ?_ _ | refine blk_drew ?_ | refine blk_alloc ?_ _)); exact BK459.out⟩, ⟨by repeat (first | (with_reducible first | exact HB.out | apply below_alloc | apply pw_below_drewN | apply below_drew1 | refine below_set ?_ GE458.out | refine below_set ?_ GE459.out) | exact HB.out)⟩⟩
   ·rw [if_neg c16] at H
    have c16b0 : (t461 == 0) = false := beq_eq_false_iff_ne.mpr c16
    have c16b1 : (t461 != 0) = true := bne_iff_ne.mpr c16
    (first | rw [c16b0] | (simp only [i64_w, i32_w]; rw [c16b0]) | rw [c16b1] | skip)
    have H' := Aside0.mk H
    clear H
    go_wp2
    go_meet
    case rel => exact ⟨_, (true), (by first | rfl | (simp; done) | (simp [Go.Proofs.Ytdhkcklgnnilfaa.Z.bne_nil, Go.Proofs.Ytdhkcklgnnilfaa.Z.beq_nil]; done) | (simp [*]; done)), H', ⟨by first | omega | exact Nat.le_refl _⟩, ⟨by (with_reducible repeat (first | refine blk_drewN ?_ _ | refine blk_drew ?_ | refine blk_alloc ?_ _)); exact BK458.out⟩, ⟨by (with_reducible repeat (first | refine blk_drewN ?_ _ | refine blk_drew ?_ | refine blk_alloc ?_ _)); exact BK459.out⟩, ⟨by repeat (first | (with_reducible first | exact HB.out | apply below_alloc | apply pw_below_drewN | apply below_drew1 | refine below_set ?_ GE458.out | refine below_set ?_ GE459.out) | exact HB.out)⟩⟩
  case rest =>
   clear HC7
   try clear c1
   try clear p2
   try clear c6
   try clear c7
   try clear c9
   try clear c10
   try clear c12
   try clear c16
   try clear c16b0
   try clear c16b1
   try clear hcz11_0
   try clear hcz11_1
   try clear hcz11_2
   try clear hcz11_3
   try clear hcz11_4
   try clear hcz13_0
   try clear hcz13_1
   try clear hcz13_2
   try clear hcz13_3
   try clear hcz13_4
   try clear hfz11_0
   try clear hfz11_1
   try clear hfz11_2
   try clear hfz11_3
   try clear hfz11_4
   try clear hfz13_0
   try clear hfz13_1
   try clear hfz13_2
   try clear hfz13_3
   try clear hfz13_4
   obtain ⟨kq, x39_6, rfl, HA, HJ6, BK458, BK459, HB⟩ := hcut
   cases kq with
   | zero => exact absurd HA.out (by simp [cofferlaw13_VersionApart.j0])
   | succ kj6 =>
    have H := HA.out
    clear HA
    simp only [cofferlaw13_VersionApart.j0] at H
    by_cases c17 : x39_6 = true
    ·subst c17
     have H1 : (some true) = some r := by rw [if_pos rfl] at H; exact H
     clear H
     have H := H1
     clear H1
     obtain rfl := Option.some.inj H
     go_wp2
     go_ret
     exact ⟨by first | rfl | (simp [errW_none, errW_some] <;> rfl) | (simp [*, errW_none, errW_some] <;> rfl), by repeat (first | (with_reducible first | exact HB.out | apply below_alloc | apply pw_below_drewN | apply below_drew1 | refine below_set ?_ GE458.out | refine below_set ?_ GE459.out) | exact HB.out)⟩
    ·replace c17 := Bool.eq_false_iff.mpr c17
     subst c17
     have H1 : ((version_Read.f kj6 t460).bind fun bt465 => ((version_Read.f kj6 t460).bind fun bt474 => ((version_Read.f kj6 t462).bind fun bt483 => ((cofferref13_Same.f kj6 bt465.1 bt465.2.1 bt465.2.2.1 bt465.2.2.2.1 bt465.2.2.2.2.1 a0_0 a0_1 a0_2 a0_3 l0_4).bind fun t492 => (if t492 = true then ((cofferref13_Same.f kj6 bt474.1 bt474.2.1 bt474.2.2.1 bt474.2.2.2.1 bt474.2.2.2.2.1 a0_0 a0_1 a0_2 a0_3 l0_4).bind fun t493 => (if t493 = true then ((cofferref13_Same.f kj6 bt483.1 bt483.2.1 bt483.2.2.1 bt483.2.2.2.1 bt483.2.2.2.2.1 a1_0 a1_1 a1_2 a1_3 l1_4).bind fun t494 => (cofferlaw13_VersionApart.j1 kj6 t460 (!t494) a0_0 a0_1 a0_2 a0_3 l0_4 a1_0 a1_1 a1_2 a1_3 l1_4 bt465.1 bt465.2.1 bt465.2.2.1 bt465.2.2.2.1 bt465.2.2.2.2.1 bt474.1 bt474.2.1 bt474.2.2.1 bt474.2.2.2.1 bt474.2.2.2.2.1 bt483.1 bt483.2.1 bt483.2.2.1 bt483.2.2.2.1 bt483.2.2.2.2.1)) else (cofferlaw13_VersionApart.j1 kj6 t460 true a0_0 a0_1 a0_2 a0_3 l0_4 a1_0 a1_1 a1_2 a1_3 l1_4 bt465.1 bt465.2.1 bt465.2.2.1 bt465.2.2.2.1 bt465.2.2.2.2.1 bt474.1 bt474.2.1 bt474.2.2.1 bt474.2.2.2.1 bt474.2.2.2.2.1 bt483.1 bt483.2.1 bt483.2.2.1 bt483.2.2.2.1 bt483.2.2.2.2.1))) else (cofferlaw13_VersionApart.j1 kj6 t460 true a0_0 a0_1 a0_2 a0_3 l0_4 a1_0 a1_1 a1_2 a1_3 l1_4 bt465.1 bt465.2.1 bt465.2.2.1 bt465.2.2.2.1 bt465.2.2.2.2.1 bt474.1 bt474.2.1 bt474.2.2.1 bt474.2.2.2.1 bt474.2.2.2.2.1 bt483.1 bt483.2.1 bt483.2.2.1 bt483.2.2.2.1 bt483.2.2.2.2.1)))))) = some r := by rw [if_neg (show ¬ (false = true) by decide)] at H; exact H
     clear H
     have H := H1
     clear H1
     replace H := Option.bind_eq_some_iff.mp H
     obtain ⟨⟨t465, t466, t467, t468, t469, t472⟩, A180, H⟩ := H
     replace H : ((version_Read.f kj6 t460).bind fun bt474 => ((version_Read.f kj6 t462).bind fun bt483 => ((cofferref13_Same.f kj6 t465 t466 t467 t468 t469 a0_0 a0_1 a0_2 a0_3 l0_4).bind fun t492 => (if t492 = true then ((cofferref13_Same.f kj6 bt474.1 bt474.2.1 bt474.2.2.1 bt474.2.2.2.1 bt474.2.2.2.2.1 a0_0 a0_1 a0_2 a0_3 l0_4).bind fun t493 => (if t493 = true then ((cofferref13_Same.f kj6 bt483.1 bt483.2.1 bt483.2.2.1 bt483.2.2.2.1 bt483.2.2.2.2.1 a1_0 a1_1 a1_2 a1_3 l1_4).bind fun t494 => (cofferlaw13_VersionApart.j1 kj6 t460 (!t494) a0_0 a0_1 a0_2 a0_3 l0_4 a1_0 a1_1 a1_2 a1_3 l1_4 t465 t466 t467 t468 t469 bt474.1 bt474.2.1 bt474.2.2.1 bt474.2.2.2.1 bt474.2.2.2.2.1 bt483.1 bt483.2.1 bt483.2.2.1 bt483.2.2.2.1 bt483.2.2.2.2.1)) else (cofferlaw13_VersionApart.j1 kj6 t460 true a0_0 a0_1 a0_2 a0_3 l0_4 a1_0 a1_1 a1_2 a1_3 l1_4 t465 t466 t467 t468 t469 bt474.1 bt474.2.1 bt474.2.2.1 bt474.2.2.2.1 bt474.2.2.2.2.1 bt483.1 bt483.2.1 bt483.2.2.1 bt483.2.2.2.1 bt483.2.2.2.2.1))) else (cofferlaw13_VersionApart.j1 kj6 t460 true a0_0 a0_1 a0_2 a0_3 l0_4 a1_0 a1_1 a1_2 a1_3 l1_4 t465 t466 t467 t468 t469 bt474.1 bt474.2.1 bt474.2.2.1 bt474.2.2.2.1 bt474.2.2.2.2.1 bt483.1 bt483.2.1 bt483.2.2.1 bt483.2.2.2.1 bt483.2.2.2.2.1))))) = some r := H
     have A18 := Aside0.mk A180
     clear A180
     replace H := Option.bind_eq_some_iff.mp H
     obtain ⟨⟨t474, t475, t476, t477, t478, t481⟩, A190, H⟩ := H
     replace H : ((version_Read.f kj6 t462).bind fun bt483 => ((cofferref13_Same.f kj6 t465 t466 t467 t468 t469 a0_0 a0_1 a0_2 a0_3 l0_4).bind fun t492 => (if t492 = true then ((cofferref13_Same.f kj6 t474 t475 t476 t477 t478 a0_0 a0_1 a0_2 a0_3 l0_4).bind fun t493 => (if t493 = true then ((cofferref13_Same.f kj6 bt483.1 bt483.2.1 bt483.2.2.1 bt483.2.2.2.1 bt483.2.2.2.2.1 a1_0 a1_1 a1_2 a1_3 l1_4).bind fun t494 => (cofferlaw13_VersionApart.j1 kj6 t460 (!t494) a0_0 a0_1 a0_2 a0_3 l0_4 a1_0 a1_1 a1_2 a1_3 l1_4 t465 t466 t467 t468 t469 t474 t475 t476 t477 t478 bt483.1 bt483.2.1 bt483.2.2.1 bt483.2.2.2.1 bt483.2.2.2.2.1)) else (cofferlaw13_VersionApart.j1 kj6 t460 true a0_0 a0_1 a0_2 a0_3 l0_4 a1_0 a1_1 a1_2 a1_3 l1_4 t465 t466 t467 t468 t469 t474 t475 t476 t477 t478 bt483.1 bt483.2.1 bt483.2.2.1 bt483.2.2.2.1 bt483.2.2.2.2.1))) else (cofferlaw13_VersionApart.j1 kj6 t460 true a0_0 a0_1 a0_2 a0_3 l0_4 a1_0 a1_1 a1_2 a1_3 l1_4 t465 t466 t467 t468 t469 t474 t475 t476 t477 t478 bt483.1 bt483.2.1 bt483.2.2.1 bt483.2.2.2.1 bt483.2.2.2.2.1)))) = some r := H
     have A19 := Aside0.mk A190
     clear A190
     replace H := Option.bind_eq_some_iff.mp H
     obtain ⟨⟨t483, t484, t485, t486, t487, t490⟩, A200, H⟩ := H
     replace H : ((cofferref13_Same.f kj6 t465 t466 t467 t468 t469 a0_0 a0_1 a0_2 a0_3 l0_4).bind fun t492 => (if t492 = true then ((cofferref13_Same.f kj6 t474 t475 t476 t477 t478 a0_0 a0_1 a0_2 a0_3 l0_4).bind fun t493 => (if t493 = true then ((cofferref13_Same.f kj6 t483 t484 t485 t486 t487 a1_0 a1_1 a1_2 a1_3 l1_4).bind fun t494 => (cofferlaw13_VersionApart.j1 kj6 t460 (!t494) a0_0 a0_1 a0_2 a0_3 l0_4 a1_0 a1_1 a1_2 a1_3 l1_4 t465 t466 t467 t468 t469 t474 t475 t476 t477 t478 t483 t484 t485 t486 t487)) else (cofferlaw13_VersionApart.j1 kj6 t460 true a0_0 a0_1 a0_2 a0_3 l0_4 a1_0 a1_1 a1_2 a1_3 l1_4 t465 t466 t467 t468 t469 t474 t475 t476 t477 t478 t483 t484 t485 t486 t487))) else (cofferlaw13_VersionApart.j1 kj6 t460 true a0_0 a0_1 a0_2 a0_3 l0_4 a1_0 a1_1 a1_2 a1_3 l1_4 t465 t466 t467 t468 t469 t474 t475 t476 t477 t478 t483 t484 t485 t486 t487))) = some r := H
     have A20 := Aside0.mk A200
     clear A200
     have HC21 := Aside0.mk H
     clear H
     go_upto_region 10 with (first | ((with_reducible refine gate_callee (f := 13) rfl ?_); refine goesL_ (some 42) rfl rfl Try.func13 (by kernel_rfl) rfl #[.string t460] rfl (by (try simp only [List.map_toArray, List.map_cons, List.map_nil]); first | done | rfl | (simp only [List.length_drop, List.length_take]; rfl)) ?_; (with_reducible refine (version_Read.calls kj6 t460 t465 t466 t467 t468 t469 t472 _ A18.out).mono ?_); rintro e w22 ⟨v470, rfl, ho0, hb⟩; refine ⟨_, rfl, ?_⟩; have n0_ := Aside0.mk (Kd.R_lower ho0 (below_size (by repeat (first | (with_reducible first | exact HB.out | apply below_alloc | apply pw_below_drewN | apply below_drew1 | refine below_set ?_ GE458.out | refine below_set ?_ GE459.out) | exact HB.out)))); have n1_ := Aside0.mk (blk_below (g := gb458) (o := .cells #[.string a0_0, .int .i64 a0_1, .bool a0_2, .string a0_3, .slice A0_4 l0_4.length c0_4] 24 (0, 0)) (by (with_reducible repeat (first | refine blk_drewN ?_ _ | refine blk_drew ?_ | refine blk_alloc ?_ _)); exact BK458.out) hb); have n2_ := Aside0.mk (blk_below (g := gb459) (o := .cells #[.string a1_0, .int .i64 a1_1, .bool a1_2, .string a1_3, .slice A1_4 l1_4.length c1_4] 24 (0, 0)) (by (with_reducible repeat (first | refine blk_drewN ?_ _ | refine blk_drew ?_ | refine blk_alloc ?_ _)); exact BK459.out) hb); have n3_ := Aside0.mk (below_step (by repeat (first | (with_reducible first | exact HB.out | apply below_alloc | apply pw_below_drewN | apply below_drew1 | refine below_set ?_ GE458.out | refine below_set ?_ GE459.out) | exact HB.out)) hb); clear BK458; clear BK459; clear HB; have HO471 := n0_; have BK458 := n1_; have BK459 := n2_; have HB := n3_; clear n0_ n1_ n2_ n3_; (try clear hb); (try clear hb2); (try clear hk); (try clear hi); (try clear ho0)) | ((with_reducible refine gate_dst (N := 9) rfl ?_); (try (refine gate_guard (by rfl) ?_; dsimp only)); refine box_event ?hg (N := 9) ?hd (cs := #[.string (⟨#[]⟩ : ByteArray), .int .i64 0, .bool false, .string (⟨#[]⟩ : ByteArray), .slice none 0 0]) (t := 24) ?hr ?_; (case hd => rfl); (case hg => rfl); (case hr => first | (go_simp; done) | (go_simp; rfl)); intro gb473 hg w23 hbox hb; have n0_ := Aside0.mk (Kd.R_below (by (with_reducible repeat (first | apply Kd.R_alloc | apply Kd.R_drewN | apply Kd.R_drew)); exact HO471.out) hb); have n1_ := Aside0.mk (blk_below (g := gb458) (o := .cells #[.string a0_0, .int .i64 a0_1, .bool a0_2, .string a0_3, .slice A0_4 l0_4.length c0_4] 24 (0, 0)) (by (with_reducible repeat (first | refine blk_drewN ?_ _ | refine blk_drew ?_ | refine blk_alloc ?_ _)); exact BK458.out) hb); have n2_ := Aside0.mk (blk_below (g := gb459) (o := .cells #[.string a1_0, .int .i64 a1_1, .bool a1_2, .string a1_3, .slice A1_4 l1_4.length c1_4] 24 (0, 0)) (by (with_reducible repeat (first | refine blk_drewN ?_ _ | refine blk_drew ?_ | refine blk_alloc ?_ _)); exact BK459.out) hb); have n3_ := Aside0.mk (below_step (by repeat (first | (with_reducible first | exact HB.out | apply below_alloc | apply pw_below_drewN | apply below_drew1 | refine below_set ?_ GE458.out | refine below_set ?_ GE459.out) | exact HB.out)) hb); have n4_ := Aside0.mk (hbox); have n5_ := Aside0.mk ((by rw [hg]; exact (below_size (by repeat (first | (with_reducible first | exact HB.out | apply below_alloc | apply pw_below_drewN | apply below_drew1 | refine below_set ?_ GE458.out | refine below_set ?_ GE459.out) | exact HB.out))) : w.heap.size ≤ gb473)); have n6_ := Aside0.mk ((by rw [hg]; exact (below_size (by repeat (first | (with_reducible first | exact HB.out | apply below_alloc | apply pw_below_drewN | apply below_drew1 | refine below_set ?_ GE458.out | refine below_set ?_ GE459.out) | exact HB.out))) : w.heap.size ≤ gb473)); have n7_ := Aside0.mk ((by rw [hg]; exact Nat.ne_of_lt (blk_lt (g := gb458) (o := .cells #[.string a0_0, .int .i64 a0_1, .bool a0_2, .string a0_3, .slice A0_4 l0_4.length c0_4] 24 (0, 0)) (by (with_reducible repeat (first | refine blk_drewN ?_ _ | refine blk_drew ?_ | refine blk_alloc ?_ _)); exact BK458.out)) : gb458 ≠ gb473)); have n8_ := Aside0.mk ((by rw [hg]; exact Nat.ne_of_gt (blk_lt (g := gb458) (o := .cells #[.string a0_0, .int .i64 a0_1, .bool a0_2, .string a0_3, .slice A0_4 l0_4.length c0_4] 24 (0, 0)) (by (with_reducible repeat (first | refine blk_drewN ?_ _ | refine blk_drew ?_ | refine blk_alloc ?_ _)); exact BK458.out)) : gb473 ≠ gb458)); have n9_ := Aside0.mk ((by rw [hg]; exact Nat.ne_of_lt (blk_lt (g := gb459) (o := .cells #[.string a1_0, .int .i64 a1_1, .bool a1_2, .string a1_3, .slice A1_4 l1_4.length c1_4] 24 (0, 0)) (by (with_reducible repeat (first | refine blk_drewN ?_ _ | refine blk_drew ?_ | refine blk_alloc ?_ _)); exact BK459.out)) : gb459 ≠ gb473)); have n10_ := Aside0.mk ((by rw [hg]; exact Nat.ne_of_gt (blk_lt (g := gb459) (o := .cells #[.string a1_0, .int .i64 a1_1, .bool a1_2, .string a1_3, .slice A1_4 l1_4.length c1_4] 24 (0, 0)) (by (with_reducible repeat (first | refine blk_drewN ?_ _ | refine blk_drew ?_ | refine blk_alloc ?_ _)); exact BK459.out)) : gb473 ≠ gb459)); clear HO471; clear BK458; clear BK459; clear HB; have HO471 := n0_; have BK458 := n1_; have BK459 := n2_; have HB := n3_; have BK473 := n4_; have GW473 := n5_; have GE473 := n6_; have NB458_473 := n7_; have NB473_458 := n8_; have NB459_473 := n9_; have NB473_459 := n10_; clear n0_ n1_ n2_ n3_ n4_ n5_ n6_ n7_ n8_ n9_ n10_; clear hb hbox hg; have hnb24 := NB473_458.out; have hnc24 := NB458_473.out; have hnb25 := NB473_459.out; have hnc25 := NB459_473.out; have hcz26_0 : w23.cell? ⟨gb473, 0, none⟩ = some (.string (⟨#[]⟩ : ByteArray)) := (blk_cell BK473.out 0).trans rfl; have hcz26_1 : w23.cell? ⟨gb473, 1, none⟩ = some (.int .i64 0) := (blk_cell BK473.out 1).trans rfl; have hcz26_2 : w23.cell? ⟨gb473, 2, none⟩ = some (.bool false) := (blk_cell BK473.out 2).trans rfl; have hcz26_3 : w23.cell? ⟨gb473, 3, none⟩ = some (.string (⟨#[]⟩ : ByteArray)) := (blk_cell BK473.out 3).trans rfl; have hcz26_4 : w23.cell? ⟨gb473, 4, none⟩ = some (.slice none 0 0) := (blk_cell BK473.out 4).trans rfl; have hfz26_0 := blk_frozen BK473.out 0; have hfz26_1 := blk_frozen BK473.out 1; have hfz26_2 := blk_frozen BK473.out 2; have hfz26_3 := blk_frozen BK473.out 3; have hfz26_4 := blk_frozen BK473.out 4; obtain ⟨Ao27, co27, eo27⟩ := Kd.R_slice HO471.out; subst eo27) | ((with_reducible refine gate_callee (f := 13) rfl ?_); refine goesL_ (some 47) rfl rfl Try.func13 (by kernel_rfl) rfl #[.string t460] rfl (by (try simp only [List.map_toArray, List.map_cons, List.map_nil]); first | done | rfl | (simp only [List.length_drop, List.length_take]; rfl)) ?_; (with_reducible refine (version_Read.calls kj6 t460 t474 t475 t476 t477 t478 t481 _ A19.out).mono ?_); rintro e w28 ⟨v479, rfl, ho0, hb⟩; refine ⟨_, rfl, ?_⟩; have n0_ := Aside0.mk (Kd.R_elder' (by (with_reducible repeat (first | apply Kd.R_alloc | apply Kd.R_drewN | apply Kd.R_drew)); exact (Kd.R_mono (Kd.R_far (p := ⟨gb473, 4, none⟩) (Kd.R_far (p := ⟨gb473, 3, none⟩) (Kd.R_far (p := ⟨gb473, 2, none⟩) (Kd.R_far (p := ⟨gb473, 1, none⟩) (Kd.R_far (p := ⟨gb473, 0, none⟩) (Kd.R_types HO471.out BK473.out (by decide)) (fun _ hk => hk.2) (.string t465)) (fun _ hk => hk.2) (.int .i64 t466)) (fun _ hk => hk.2) (.bool t467)) (fun _ hk => hk.2) (.string t468)) (fun _ hk => hk.2) (.slice Ao27 t469.length co27)) (fun _ h_ => h_.1))) (Kd.R_base ho0) hb); have n1_ := Aside0.mk (Kd.R_lower (Kd.R_new' ho0 (Kd.R_lt (by (with_reducible repeat (first | apply Kd.R_alloc | apply Kd.R_drewN | apply Kd.R_drew)); exact (Kd.R_mono (Kd.R_far (p := ⟨gb473, 4, none⟩) (Kd.R_far (p := ⟨gb473, 3, none⟩) (Kd.R_far (p := ⟨gb473, 2, none⟩) (Kd.R_far (p := ⟨gb473, 1, none⟩) (Kd.R_far (p := ⟨gb473, 0, none⟩) (Kd.R_types HO471.out BK473.out (by decide)) (fun _ hk => hk.2) (.string t465)) (fun _ hk => hk.2) (.int .i64 t466)) (fun _ hk => hk.2) (.bool t467)) (fun _ hk => hk.2) (.string t468)) (fun _ hk => hk.2) (.slice Ao27 t469.length co27)) (fun _ h_ => h_.1))))) (below_size (by repeat (first | (with_reducible first | exact HB.out | apply below_alloc | apply pw_below_drewN | apply below_drew1 | refine below_set ?_ GE458.out | refine below_set ?_ GE459.out | refine below_set ?_ GE473.out) | exact HB.out)))); have n2_ := Aside0.mk (blk_below (g := gb458) (o := .cells #[.string a0_0, .int .i64 a0_1, .bool a0_2, .string a0_3, .slice A0_4 l0_4.length c0_4] 24 (0, 0)) (by (with_reducible repeat (first | refine blk_drewN ?_ _ | refine blk_drew ?_ | refine blk_alloc ?_ _)); refine blk_far ?_ NB458_473.out _; (with_reducible repeat (first | refine blk_drewN ?_ _ | refine blk_drew ?_ | refine blk_alloc ?_ _)); refine blk_far ?_ NB458_473.out _; (with_reducible repeat (first | refine blk_drewN ?_ _ | refine blk_drew ?_ | refine blk_alloc ?_ _)); refine blk_far ?_ NB458_473.out _; (with_reducible repeat (first | refine blk_drewN ?_ _ | refine blk_drew ?_ | refine blk_alloc ?_ _)); refine blk_far ?_ NB458_473.out _; (with_reducible repeat (first | refine blk_drewN ?_ _ | refine blk_drew ?_ | refine blk_alloc ?_ _)); refine blk_far ?_ NB458_473.out _; (with_reducible repeat (first | refine blk_drewN ?_ _ | refine blk_drew ?_ | refine blk_alloc ?_ _)); exact BK458.out) hb); have n3_ := Aside0.mk (blk_below (g := gb459) (o := .cells #[.string a1_0, .int .i64 a1_1, .bool a1_2, .string a1_3, .slice A1_4 l1_4.length c1_4] 24 (0, 0)) (by (with_reducible repeat (first | refine blk_drewN ?_ _ | refine blk_drew ?_ | refine blk_alloc ?_ _)); refine blk_far ?_ NB459_473.out _; (with_reducible repeat (first | refine blk_drewN ?_ _ | refine blk_drew ?_ | refine blk_alloc ?_ _)); refine blk_far ?_ NB459_473.out _; (with_reducible repeat (first | refine blk_drewN ?_ _ | refine blk_drew ?_ | refine blk_alloc ?_ _)); refine blk_far ?_ NB459_473.out _; (with_reducible repeat (first | refine blk_drewN ?_ _ | refine blk_drew ?_ | refine blk_alloc ?_ _)); refine blk_far ?_ NB459_473.out _; (with_reducible repeat (first | refine blk_drewN ?_ _ | refine blk_drew ?_ | refine blk_alloc ?_ _)); refine blk_far ?_ NB459_473.out _; (with_reducible repeat (first | refine blk_drewN ?_ _ | refine blk_drew ?_ | refine blk_alloc ?_ _)); exact BK459.out) hb); have n4_ := Aside0.mk (blk_below (g := gb473) (o := .cells #[.string t465, .int .i64 t466, .bool t467, .string t468, .slice Ao27 t469.length co27] 24 (0, 0)) (by (with_reducible repeat (first | refine blk_drewN ?_ _ | refine blk_drew ?_ | refine blk_alloc ?_ _)); refine blk_put (cs := #[.string t465, .int .i64 t466, .bool t467, .string t468, .slice none 0 0]) ?_ 4 _ rfl; (with_reducible repeat (first | refine blk_drewN ?_ _ | refine blk_drew ?_ | refine blk_alloc ?_ _)); refine blk_put (cs := #[.string t465, .int .i64 t466, .bool t467, .string (⟨#[]⟩ : ByteArray), .slice none 0 0]) ?_ 3 _ rfl; (with_reducible repeat (first | refine blk_drewN ?_ _ | refine blk_drew ?_ | refine blk_alloc ?_ _)); refine blk_put (cs := #[.string t465, .int .i64 t466, .bool false, .string (⟨#[]⟩ : ByteArray), .slice none 0 0]) ?_ 2 _ rfl; (with_reducible repeat (first | refine blk_drewN ?_ _ | refine blk_drew ?_ | refine blk_alloc ?_ _)); refine blk_put (cs := #[.string t465, .int .i64 0, .bool false, .string (⟨#[]⟩ : ByteArray), .slice none 0 0]) ?_ 1 _ rfl; (with_reducible repeat (first | refine blk_drewN ?_ _ | refine blk_drew ?_ | refine blk_alloc ?_ _)); refine blk_put (cs := #[.string (⟨#[]⟩ : ByteArray), .int .i64 0, .bool false, .string (⟨#[]⟩ : ByteArray), .slice none 0 0]) ?_ 0 _ rfl; (with_reducible repeat (first | refine blk_drewN ?_ _ | refine blk_drew ?_ | refine blk_alloc ?_ _)); exact BK473.out) hb); have n5_ := Aside0.mk (below_step (by repeat (first | (with_reducible first | exact HB.out | apply below_alloc | apply pw_below_drewN | apply below_drew1 | refine below_set ?_ GE458.out | refine below_set ?_ GE459.out | refine below_set ?_ GE473.out) | exact HB.out)) hb); clear HO471; clear BK458; clear BK459; clear BK473; clear HB; have HO471 := n0_; have HO480 := n1_; have BK458 := n2_; have BK459 := n3_; have BK473 := n4_; have HB := n5_; clear n0_ n1_ n2_ n3_ n4_ n5_; (try clear hb); (try clear hb2); (try clear hk); (try clear hi); (try clear ho0)) | ((with_reducible refine gate_dst (N := 11) rfl ?_); (try (refine gate_guard (by rfl) ?_; dsimp only)); refine box_event ?hg (N := 11) ?hd (cs := #[.string (⟨#[]⟩ : ByteArray), .int .i64 0, .bool false, .string (⟨#[]⟩ : ByteArray), .slice none 0 0]) (t := 24) ?hr ?_; (case hd => rfl); (case hg => rfl); (case hr => first | (go_simp; done) | (go_simp; rfl)); intro gb482 hg w29 hbox hb; have n0_ := Aside0.mk (Kd.R_below (by (with_reducible repeat (first | apply Kd.R_alloc | apply Kd.R_drewN | apply Kd.R_drew)); exact HO471.out) hb); have n1_ := Aside0.mk (Kd.R_below (by (with_reducible repeat (first | apply Kd.R_alloc | apply Kd.R_drewN | apply Kd.R_drew)); exact HO480.out) hb); have n2_ := Aside0.mk (blk_below (g := gb458) (o := .cells #[.string a0_0, .int .i64 a0_1, .bool a0_2, .string a0_3, .slice A0_4 l0_4.length c0_4] 24 (0, 0)) (by (with_reducible repeat (first | refine blk_drewN ?_ _ | refine blk_drew ?_ | refine blk_alloc ?_ _)); exact BK458.out) hb); have n3_ := Aside0.mk (blk_below (g := gb459) (o := .cells #[.string a1_0, .int .i64 a1_1, .bool a1_2, .string a1_3, .slice A1_4 l1_4.length c1_4] 24 (0, 0)) (by (with_reducible repeat (first | refine blk_drewN ?_ _ | refine blk_drew ?_ | refine blk_alloc ?_ _)); exact BK459.out) hb); have n4_ := Aside0.mk (blk_below (g := gb473) (o := .cells #[.string t465, .int .i64 t466, .bool t467, .string t468, .slice Ao27 t469.length co27] 24 (0, 0)) (by (with_reducible repeat (first | refine blk_drewN ?_ _ | refine blk_drew ?_ | refine blk_alloc ?_ _)); exact BK473.out) hb); have n5_ := Aside0.mk (below_step (by repeat (first | (with_reducible first | exact HB.out | apply below_alloc | apply pw_below_drewN | apply below_drew1 | refine below_set ?_ GE458.out | refine below_set ?_ GE459.out | refine below_set ?_ GE473.out) | exact HB.out)) hb); have n6_ := Aside0.mk (hbox); have n7_ := Aside0.mk ((by rw [hg]; exact (below_size (by repeat (first | (with_reducible first | exact HB.out | apply below_alloc | apply pw_below_drewN | apply below_drew1 | refine below_set ?_ GE458.out | refine below_set ?_ GE459.out | refine below_set ?_ GE473.out) | exact HB.out))) : w.heap.size ≤ gb482)); have n8_ := Aside0.mk ((by rw [hg]; exact (below_size (by repeat (first | (with_reducible first | exact HB.out | apply below_alloc | apply pw_below_drewN | apply below_drew1 | refine below_set ?_ GE458.out | refine below_set ?_ GE459.out | refine below_set ?_ GE473.out) | exact HB.out))) : w.heap.size ≤ gb482)); have n9_ := Aside0.mk ((by rw [hg]; exact Nat.ne_of_lt (blk_lt (g := gb458) (o := .cells #[.string a0_0, .int .i64 a0_1, .bool a0_2, .string a0_3, .slice A0_4 l0_4.length c0_4] 24 (0, 0)) (by (with_reducible repeat (first | refine blk_drewN ?_ _ | refine blk_drew ?_ | refine blk_alloc ?_ _)); exact BK458.out)) : gb458 ≠ gb482)); have n10_ := Aside0.mk ((by rw [hg]; exact Nat.ne_of_gt (blk_lt (g := gb458) (o := .cells #[.string a0_0, .int .i64 a0_1, .bool a0_2, .string a0_3, .slice A0_4 l0_4.length c0_4] 24 (0, 0)) (by (with_reducible repeat (first | refine blk_drewN ?_ _ | refine blk_drew ?_ | refine blk_alloc ?_ _)); exact BK458.out)) : gb482 ≠ gb458)); have n11_ := Aside0.mk ((by rw [hg]; exact Nat.ne_of_lt (blk_lt (g := gb459) (o := .cells #[.string a1_0, .int .i64 a1_1, .bool a1_2, .string a1_3, .slice A1_4 l1_4.length c1_4] 24 (0, 0)) (by (with_reducible repeat (first | refine blk_drewN ?_ _ | refine blk_drew ?_ | refine blk_alloc ?_ _)); exact BK459.out)) : gb459 ≠ gb482)); have n12_ := Aside0.mk ((by rw [hg]; exact Nat.ne_of_gt (blk_lt (g := gb459) (o := .cells #[.string a1_0, .int .i64 a1_1, .bool a1_2, .string a1_3, .slice A1_4 l1_4.length c1_4] 24 (0, 0)) (by (with_reducible repeat (first | refine blk_drewN ?_ _ | refine blk_drew ?_ | refine blk_alloc ?_ _)); exact BK459.out)) : gb482 ≠ gb459)); have n13_ := Aside0.mk ((by rw [hg]; exact Nat.ne_of_lt (blk_lt (g := gb473) (o := .cells #[.string t465, .int .i64 t466, .bool t467, .string t468, .slice Ao27 t469.length co27] 24 (0, 0)) (by (with_reducible repeat (first | refine blk_drewN ?_ _ | refine blk_drew ?_ | refine blk_alloc ?_ _)); exact BK473.out)) : gb473 ≠ gb482)); have n14_ := Aside0.mk ((by rw [hg]; exact Nat.ne_of_gt (blk_lt (g := gb473) (o := .cells #[.string t465, .int .i64 t466, .bool t467, .string t468, .slice Ao27 t469.length co27] 24 (0, 0)) (by (with_reducible repeat (first | refine blk_drewN ?_ _ | refine blk_drew ?_ | refine blk_alloc ?_ _)); exact BK473.out)) : gb482 ≠ gb473)); clear HO471; clear HO480; clear BK458; clear BK459; clear BK473; clear HB; have HO471 := n0_; have HO480 := n1_; have BK458 := n2_; have BK459 := n3_; have BK473 := n4_; have HB := n5_; have BK482 := n6_; have GW482 := n7_; have GE482 := n8_; have NB458_482 := n9_; have NB482_458 := n10_; have NB459_482 := n11_; have NB482_459 := n12_; have NB473_482 := n13_; have NB482_473 := n14_; clear n0_ n1_ n2_ n3_ n4_ n5_ n6_ n7_ n8_ n9_ n10_ n11_ n12_ n13_ n14_; clear hb hbox hg; have hnb30 := NB482_458.out; have hnc30 := NB458_482.out; have hnb31 := NB482_459.out; have hnc31 := NB459_482.out; have hnb32 := NB482_473.out; have hnc32 := NB473_482.out; have hcz33_0 : w29.cell? ⟨gb482, 0, none⟩ = some (.string (⟨#[]⟩ : ByteArray)) := (blk_cell BK482.out 0).trans rfl; have hcz33_1 : w29.cell? ⟨gb482, 1, none⟩ = some (.int .i64 0) := (blk_cell BK482.out 1).trans rfl; have hcz33_2 : w29.cell? ⟨gb482, 2, none⟩ = some (.bool false) := (blk_cell BK482.out 2).trans rfl; have hcz33_3 : w29.cell? ⟨gb482, 3, none⟩ = some (.string (⟨#[]⟩ : ByteArray)) := (blk_cell BK482.out 3).trans rfl; have hcz33_4 : w29.cell? ⟨gb482, 4, none⟩ = some (.slice none 0 0) := (blk_cell BK482.out 4).trans rfl; have hfz33_0 := blk_frozen BK482.out 0; have hfz33_1 := blk_frozen BK482.out 1; have hfz33_2 := blk_frozen BK482.out 2; have hfz33_3 := blk_frozen BK482.out 3; have hfz33_4 := blk_frozen BK482.out 4; obtain ⟨Ao34, co34, eo34⟩ := Kd.R_slice HO480.out; subst eo34) | ((with_reducible refine gate_callee (f := 13) rfl ?_); refine goesL_ (some 52) rfl rfl Try.func13 (by kernel_rfl) rfl #[.string t462] rfl (by (try simp only [List.map_toArray, List.map_cons, List.map_nil]); first | done | rfl | (simp only [List.length_drop, List.length_take]; rfl)) ?_; (with_reducible refine (version_Read.calls kj6 t462 t483 t484 t485 t486 t487 t490 _ A20.out).mono ?_); rintro e w35 ⟨v488, rfl, ho0, hb⟩; refine ⟨_, rfl, ?_⟩; have n0_ := Aside0.mk (Kd.R_elder' (by (with_reducible repeat (first | apply Kd.R_alloc | apply Kd.R_drewN | apply Kd.R_drew)); exact (Kd.R_mono (Kd.R_far (p := ⟨gb482, 4, none⟩) (Kd.R_far (p := ⟨gb482, 3, none⟩) (Kd.R_far (p := ⟨gb482, 2, none⟩) (Kd.R_far (p := ⟨gb482, 1, none⟩) (Kd.R_far (p := ⟨gb482, 0, none⟩) (Kd.R_types HO471.out BK482.out (by decide)) (fun _ hk => hk.2) (.string t474)) (fun _ hk => hk.2) (.int .i64 t475)) (fun _ hk => hk.2) (.bool t476)) (fun _ hk => hk.2) (.string t477)) (fun _ hk => hk.2) (.slice Ao34 t478.length co34)) (fun _ h_ => h_.1))) (Kd.R_base ho0) hb); have n1_ := Aside0.mk (Kd.R_elder' (by (with_reducible repeat (first | apply Kd.R_alloc | apply Kd.R_drewN | apply Kd.R_drew)); exact (Kd.R_mono (Kd.R_far (p := ⟨gb482, 4, none⟩) (Kd.R_far (p := ⟨gb482, 3, none⟩) (Kd.R_far (p := ⟨gb482, 2, none⟩) (Kd.R_far (p := ⟨gb482, 1, none⟩) (Kd.R_far (p := ⟨gb482, 0, none⟩) (Kd.R_types HO480.out BK482.out (by decide)) (fun _ hk => hk.2) (.string t474)) (fun _ hk => hk.2) (.int .i64 t475)) (fun _ hk => hk.2) (.bool t476)) (fun _ hk => hk.2) (.string t477)) (fun _ hk => hk.2) (.slice Ao34 t478.length co34)) (fun _ h_ => h_.1))) (Kd.R_base ho0) hb); have n2_ := Aside0.mk (Kd.R_lower (Kd.R_new' (Kd.R_new' ho0 (Kd.R_lt (by (with_reducible repeat (first | apply Kd.R_alloc | apply Kd.R_drewN | apply Kd.R_drew)); exact (Kd.R_mono (Kd.R_far (p := ⟨gb482, 4, none⟩) (Kd.R_far (p := ⟨gb482, 3, none⟩) (Kd.R_far (p := ⟨gb482, 2, none⟩) (Kd.R_far (p := ⟨gb482, 1, none⟩) (Kd.R_far (p := ⟨gb482, 0, none⟩) (Kd.R_types HO471.out BK482.out (by decide)) (fun _ hk => hk.2) (.string t474)) (fun _ hk => hk.2) (.int .i64 t475)) (fun _ hk => hk.2) (.bool t476)) (fun _ hk => hk.2) (.string t477)) (fun _ hk => hk.2) (.slice Ao34 t478.length co34)) (fun _ h_ => h_.1))))) (Kd.R_lt (by (with_reducible repeat (first | apply Kd.R_alloc | apply Kd.R_drewN | apply Kd.R_drew)); exact (Kd.R_mono (Kd.R_far (p := ⟨gb482, 4, none⟩) (Kd.R_far (p := ⟨gb482, 3, none⟩) (Kd.R_far (p := ⟨gb482, 2, none⟩) (Kd.R_far (p := ⟨gb482, 1, none⟩) (Kd.R_far (p := ⟨gb482, 0, none⟩) (Kd.R_types HO480.out BK482.out (by decide)) (fun _ hk => hk.2) (.string t474)) (fun _ hk => hk.2) (.int .i64 t475)) (fun _ hk => hk.2) (.bool t476)) (fun _ hk => hk.2) (.string t477)) (fun _ hk => hk.2) (.slice Ao34 t478.length co34)) (fun _ h_ => h_.1))))) (below_size (by repeat (first | (with_reducible first | exact HB.out | apply below_alloc | apply pw_below_drewN | apply below_drew1 | refine below_set ?_ GE458.out | refine below_set ?_ GE459.out | refine below_set ?_ GE473.out | refine below_set ?_ GE482.out) | exact HB.out)))); have n3_ := Aside0.mk (blk_below (g := gb458) (o := .cells #[.string a0_0, .int .i64 a0_1, .bool a0_2, .string a0_3, .slice A0_4 l0_4.length c0_4] 24 (0, 0)) (by (with_reducible repeat (first | refine blk_drewN ?_ _ | refine blk_drew ?_ | refine blk_alloc ?_ _)); refine blk_far ?_ NB458_482.out _; (with_reducible repeat (first | refine blk_drewN ?_ _ | refine blk_drew ?_ | refine blk_alloc ?_ _)); refine blk_far ?_ NB458_482.out _; (with_reducible repeat (first | refine blk_drewN ?_ _ | refine blk_drew ?_ | refine blk_alloc ?_ _)); refine blk_far ?_ NB458_482.out _; (with_reducible repeat (first | refine blk_drewN ?_ _ | refine blk_drew ?_ | refine blk_alloc ?_ _)); refine blk_far ?_ NB458_482.out _; (with_reducible repeat (first | refine blk_drewN ?_ _ | refine blk_drew ?_ | refine blk_alloc ?_ _)); refine blk_far ?_ NB458_482.out _; (with_reducible repeat (first | refine blk_drewN ?_ _ | refine blk_drew ?_ | refine blk_alloc ?_ _)); exact BK458.out) hb); have n4_ := Aside0.mk (blk_below (g := gb459) (o := .cells #[.string a1_0, .int .i64 a1_1, .bool a1_2, .string a1_3, .slice A1_4 l1_4.length c1_4] 24 (0, 0)) (by (with_reducible repeat (first | refine blk_drewN ?_ _ | refine blk_drew ?_ | refine blk_alloc ?_ _)); refine blk_far ?_ NB459_482.out _; (with_reducible repeat (first | refine blk_drewN ?_ _ | refine blk_drew ?_ | refine blk_alloc ?_ _)); refine blk_far ?_ NB459_482.out _; (with_reducible repeat (first | refine blk_drewN ?_ _ | refine blk_drew ?_ | refine blk_alloc ?_ _)); refine blk_far ?_ NB459_482.out _; (with_reducible repeat (first | refine blk_drewN ?_ _ | refine blk_drew ?_ | refine blk_alloc ?_ _)); refine blk_far ?_ NB459_482.out _; (with_reducible repeat (first | refine blk_drewN ?_ _ | refine blk_drew ?_ | refine blk_alloc ?_ _)); refine blk_far ?_ NB459_482.out _; (with_reducible repeat (first | refine blk_drewN ?_ _ | refine blk_drew ?_ | refine blk_alloc ?_ _)); exact BK459.out) hb); have n5_ := Aside0.mk (blk_below (g := gb473) (o := .cells #[.string t465, .int .i64 t466, .bool t467, .string t468, .slice Ao27 t469.length co27] 24 (0, 0)) (by (with_reducible repeat (first | refine blk_drewN ?_ _ | refine blk_drew ?_ | refine blk_alloc ?_ _)); refine blk_far ?_ NB473_482.out _; (with_reducible repeat (first | refine blk_drewN ?_ _ | refine blk_drew ?_ | refine blk_alloc ?_ _)); refine blk_far ?_ NB473_482.out _; (with_reducible repeat (first | refine blk_drewN ?_ _ | refine blk_drew ?_ | refine blk_alloc ?_ _)); refine blk_far ?_ NB473_482.out _; (with_reducible repeat (first | refine blk_drewN ?_ _ | refine blk_drew ?_ | refine blk_alloc ?_ _)); refine blk_far ?_ NB473_482.out _; (with_reducible repeat (first | refine blk_drewN ?_ _ | refine blk_drew ?_ | refine blk_alloc ?_ _)); refine blk_far ?_ NB473_482.out _; (with_reducible repeat (first | refine blk_drewN ?_ _ | refine blk_drew ?_ | refine blk_alloc ?_ _)); exact BK473.out) hb); have n6_ := Aside0.mk (blk_below (g := gb482) (o := .cells #[.string t474, .int .i64 t475, .bool t476, .string t477, .slice Ao34 t478.length co34] 24 (0, 0)) (by (with_reducible repeat (first | refine blk_drewN ?_ _ | refine blk_drew ?_ | refine blk_alloc ?_ _)); refine blk_put (cs := #[.string t474, .int .i64 t475, .bool t476, .string t477, .slice none 0 0]) ?_ 4 _ rfl; (with_reducible repeat (first | refine blk_drewN ?_ _ | refine blk_drew ?_ | refine blk_alloc ?_ _)); refine blk_put (cs := #[.string t474, .int .i64 t475, .bool t476, .string (⟨#[]⟩ : ByteArray), .slice none 0 0]) ?_ 3 _ rfl; (with_reducible repeat (first | refine blk_drewN ?_ _ | refine blk_drew ?_ | refine blk_alloc ?_ _)); refine blk_put (cs := #[.string t474, .int .i64 t475, .bool false, .string (⟨#[]⟩ : ByteArray), .slice none 0 0]) ?_ 2 _ rfl; (with_reducible repeat (first | refine blk_drewN ?_ _ | refine blk_drew ?_ | refine blk_alloc ?_ _)); refine blk_put (cs := #[.string t474, .int .i64 0, .bool false, .string (⟨#[]⟩ : ByteArray), .slice none 0 0]) ?_ 1 _ rfl; (with_reducible repeat (first | refine blk_drewN ?_ _ | refine blk_drew ?_ | refine blk_alloc ?_ _)); refine blk_put (cs := #[.string (⟨#[]⟩ : ByteArray), .int .i64 0, .bool false, .string (⟨#[]⟩ : ByteArray), .slice none 0 0]) ?_ 0 _ rfl; (with_reducible repeat (first | refine blk_drewN ?_ _ | refine blk_drew ?_ | refine blk_alloc ?_ _)); exact BK482.out) hb); have n7_ := Aside0.mk (below_step (by repeat (first | (with_reducible first | exact HB.out | apply below_alloc | apply pw_below_drewN | apply below_drew1 | refine below_set ?_ GE458.out | refine below_set ?_ GE459.out | refine below_set ?_ GE473.out | refine below_set ?_ GE482.out) | exact HB.out)) hb); clear HO471; clear HO480; clear BK458; clear BK459; clear BK473; clear BK482; clear HB; have HO471 := n0_; have HO480 := n1_; have HO489 := n2_; have BK458 := n3_; have BK459 := n4_; have BK473 := n5_; have BK482 := n6_; have HB := n7_; clear n0_ n1_ n2_ n3_ n4_ n5_ n6_ n7_; (try clear hb); (try clear hb2); (try clear hk); (try clear hi); (try clear ho0)) | ((with_reducible refine gate_dst (N := 13) rfl ?_); (try (refine gate_guard (by rfl) ?_; dsimp only)); refine box_event ?hg (N := 13) ?hd (cs := #[.string (⟨#[]⟩ : ByteArray), .int .i64 0, .bool false, .string (⟨#[]⟩ : ByteArray), .slice none 0 0]) (t := 24) ?hr ?_; (case hd => rfl); (case hg => rfl); (case hr => first | (go_simp; done) | (go_simp; rfl)); intro gb491 hg w36 hbox hb; have n0_ := Aside0.mk (Kd.R_below (by (with_reducible repeat (first | apply Kd.R_alloc | apply Kd.R_drewN | apply Kd.R_drew)); exact HO471.out) hb); have n1_ := Aside0.mk (Kd.R_below (by (with_reducible repeat (first | apply Kd.R_alloc | apply Kd.R_drewN | apply Kd.R_drew)); exact HO480.out) hb); have n2_ := Aside0.mk (Kd.R_below (by (with_reducible repeat (first | apply Kd.R_alloc | apply Kd.R_drewN | apply Kd.R_drew)); exact HO489.out) hb); have n3_ := Aside0.mk (blk_below (g := gb458) (o := .cells #[.string a0_0, .int .i64 a0_1, .bool a0_2, .string a0_3, .slice A0_4 l0_4.length c0_4] 24 (0, 0)) (by (with_reducible repeat (first | refine blk_drewN ?_ _ | refine blk_drew ?_ | refine blk_alloc ?_ _)); exact BK458.out) hb); have n4_ := Aside0.mk (blk_below (g := gb459) (o := .cells #[.string a1_0, .int .i64 a1_1, .bool a1_2, .string a1_3, .slice A1_4 l1_4.length c1_4] 24 (0, 0)) (by (with_reducible repeat (first | refine blk_drewN ?_ _ | refine blk_drew ?_ | refine blk_alloc ?_ _)); exact BK459.out) hb); have n5_ := Aside0.mk (blk_below (g := gb473) (o := .cells #[.string t465, .int .i64 t466, .bool t467, .string t468, .slice Ao27 t469.length co27] 24 (0, 0)) (by (with_reducible repeat (first | refine blk_drewN ?_ _ | refine blk_drew ?_ | refine blk_alloc ?_ _)); exact BK473.out) hb); have n6_ := Aside0.mk (blk_below (g := gb482) (o := .cells #[.string t474, .int .i64 t475, .bool t476, .string t477, .slice Ao34 t478.length co34] 24 (0, 0)) (by (with_reducible repeat (first | refine blk_drewN ?_ _ | refine blk_drew ?_ | refine blk_alloc ?_ _)); exact BK482.out) hb); have n7_ := Aside0.mk (below_step (by repeat (first | (with_reducible first | exact HB.out | apply below_alloc | apply pw_below_drewN | apply below_drew1 | refine below_set ?_ GE458.out | refine below_set ?_ GE459.out | refine below_set ?_ GE473.out | refine below_set ?_ GE482.out) | exact HB.out)) hb); have n8_ := Aside0.mk (hbox); have n9_ := Aside0.mk ((by rw [hg]; exact (below_size (by repeat (first | (with_reducible first | exact HB.out | apply below_alloc | apply pw_below_drewN | apply below_drew1 | refine below_set ?_ GE458.out | refine below_set ?_ GE459.out | refine below_set ?_ GE473.out | refine below_set ?_ GE482.out) | exact HB.out))) : w.heap.size ≤ gb491)); have n10_ := Aside0.mk ((by rw [hg]; exact (below_size (by repeat (first | (with_reducible first | exact HB.out | apply below_alloc | apply pw_below_drewN | apply below_drew1 | refine below_set ?_ GE458.out | refine below_set ?_ GE459.out | refine below_set ?_ GE473.out | refine below_set ?_ GE482.out) | exact HB.out))) : w.heap.size ≤ gb491)); have n11_ := Aside0.mk ((by rw [hg]; exact Nat.ne_of_lt (blk_lt (g := gb458) (o := .cells #[.string a0_0, .int .i64 a0_1, .bool a0_2, .string a0_3, .slice A0_4 l0_4.length c0_4] 24 (0, 0)) (by (with_reducible repeat (first | refine blk_drewN ?_ _ | refine blk_drew ?_ | refine blk_alloc ?_ _)); exact BK458.out)) : gb458 ≠ gb491)); have n12_ := Aside0.mk ((by rw [hg]; exact Nat.ne_of_gt (blk_lt (g := gb458) (o := .cells #[.string a0_0, .int .i64 a0_1, .bool a0_2, .string a0_3, .slice A0_4 l0_4.length c0_4] 24 (0, 0)) (by (with_reducible repeat (first | refine blk_drewN ?_ _ | refine blk_drew ?_ | refine blk_alloc ?_ _)); exact BK458.out)) : gb491 ≠ gb458)); have n13_ := Aside0.mk ((by rw [hg]; exact Nat.ne_of_lt (blk_lt (g := gb459) (o := .cells #[.string a1_0, .int .i64 a1_1, .bool a1_2, .string a1_3, .slice A1_4 l1_4.length c1_4] 24 (0, 0)) (by (with_reducible repeat (first | refine blk_drewN ?_ _ | refine blk_drew ?_ | refine blk_alloc ?_ _)); exact BK459.out)) : gb459 ≠ gb491)); have n14_ := Aside0.mk ((by rw [hg]; exact Nat.ne_of_gt (blk_lt (g := gb459) (o := .cells #[.string a1_0, .int .i64 a1_1, .bool a1_2, .string a1_3, .slice A1_4 l1_4.length c1_4] 24 (0, 0)) (by (with_reducible repeat (first | refine blk_drewN ?_ _ | refine blk_drew ?_ | refine blk_alloc ?_ _)); exact BK459.out)) : gb491 ≠ gb459)); have n15_ := Aside0.mk ((by rw [hg]; exact Nat.ne_of_lt (blk_lt (g := gb473) (o := .cells #[.string t465, .int .i64 t466, .bool t467, .string t468, .slice Ao27 t469.length co27] 24 (0, 0)) (by (with_reducible repeat (first | refine blk_drewN ?_ _ | refine blk_drew ?_ | refine blk_alloc ?_ _)); exact BK473.out)) : gb473 ≠ gb491)); have n16_ := Aside0.mk ((by rw [hg]; exact Nat.ne_of_gt (blk_lt (g := gb473) (o := .cells #[.string t465, .int .i64 t466, .bool t467, .string t468, .slice Ao27 t469.length co27] 24 (0, 0)) (by (with_reducible repeat (first | refine blk_drewN ?_ _ | refine blk_drew ?_ | refine blk_alloc ?_ _)); exact BK473.out)) : gb491 ≠ gb473)); have n17_ := Aside0.mk ((by rw [hg]; exact Nat.ne_of_lt (blk_lt (g := gb482) (o := .cells #[.string t474, .int .i64 t475, .bool t476, .string t477, .slice Ao34 t478.length co34] 24 (0, 0)) (by (with_reducible repeat (first | refine blk_drewN ?_ _ | refine blk_drew ?_ | refine blk_alloc ?_ _)); exact BK482.out)) : gb482 ≠ gb491)); have n18_ := Aside0.mk ((by rw [hg]; exact Nat.ne_of_gt (blk_lt (g := gb482) (o := .cells #[.string t474, .int .i64 t475, .bool t476, .string t477, .slice Ao34 t478.length co34] 24 (0, 0)) (by (with_reducible repeat (first | refine blk_drewN ?_ _ | refine blk_drew ?_ | refine blk_alloc ?_ _)); exact BK482.out)) : gb491 ≠ gb482)); clear HO471; clear HO480; clear HO489; clear BK458; clear BK459; clear BK473; clear BK482; clear HB; have HO471 := n0_; have HO480 := n1_; have HO489 := n2_; have BK458 := n3_; have BK459 := n4_; have BK473 := n5_; have BK482 := n6_; have HB := n7_; have BK491 := n8_; have GW491 := n9_; have GE491 := n10_; have NB458_491 := n11_; have NB491_458 := n12_; have NB459_491 := n13_; have NB491_459 := n14_; have NB473_491 := n15_; have NB491_473 := n16_; have NB482_491 := n17_; have NB491_482 := n18_; clear n0_ n1_ n2_ n3_ n4_ n5_ n6_ n7_ n8_ n9_ n10_ n11_ n12_ n13_ n14_ n15_ n16_ n17_ n18_; clear hb hbox hg; have hnb37 := NB491_458.out; have hnc37 := NB458_491.out; have hnb38 := NB491_459.out; have hnc38 := NB459_491.out; have hnb39 := NB491_473.out; have hnc39 := NB473_491.out; have hnb40 := NB491_482.out; have hnc40 := NB482_491.out; have hcz41_0 : w36.cell? ⟨gb491, 0, none⟩ = some (.string (⟨#[]⟩ : ByteArray)) := (blk_cell BK491.out 0).trans rfl; have hcz41_1 : w36.cell? ⟨gb491, 1, none⟩ = some (.int .i64 0) := (blk_cell BK491.out 1).trans rfl; have hcz41_2 : w36.cell? ⟨gb491, 2, none⟩ = some (.bool false) := (blk_cell BK491.out 2).trans rfl; have hcz41_3 : w36.cell? ⟨gb491, 3, none⟩ = some (.string (⟨#[]⟩ : ByteArray)) := (blk_cell BK491.out 3).trans rfl; have hcz41_4 : w36.cell? ⟨gb491, 4, none⟩ = some (.slice none 0 0) := (blk_cell BK491.out 4).trans rfl; have hfz41_0 := blk_frozen BK491.out 0; have hfz41_1 := blk_frozen BK491.out 1; have hfz41_2 := blk_frozen BK491.out 2; have hfz41_3 := blk_frozen BK491.out 3; have hfz41_4 := blk_frozen BK491.out 4; obtain ⟨Ao42, co42, eo42⟩ := Kd.R_slice HO489.out; subst eo42))
     (try simp only [Act.put, List.setIfInBounds_toArray, List.set_cons_zero, List.set_cons_succ])
     go_cut [70] (fun v70 wc => ∃ (kq : Nat) (x70_20 : Bool), v70 = .bool x70_20 ∧ Aside0 (cofferlaw13_VersionApart.j1 kq t460 x70_20 a0_0 a0_1 a0_2 a0_3 l0_4 a1_0 a1_1 a1_2 a1_3 l1_4 t465 t466 t467 t468 t469 t474 t475 t476 t477 t478 t483 t484 t485 t486 t487 = some r) ∧ Aside0 (kq ≤ kj6) ∧ Aside0 (Kd.R k31 31 wc w.heap.size (fun k_ => some k_ ≠ ((.slice Ao34 t478.length co34) : Value).ownBlock ∧ some k_ ≠ ((.slice Ao42 t487.length co42) : Value).ownBlock) (.slice Ao27 t469.length co27) t469) ∧ Aside0 (Kd.R k31 31 wc w.heap.size (fun k_ => some k_ ≠ ((.slice Ao27 t469.length co27) : Value).ownBlock ∧ some k_ ≠ ((.slice Ao42 t487.length co42) : Value).ownBlock) (.slice Ao34 t478.length co34) t478) ∧ Aside0 (Kd.R k31 31 wc w.heap.size (fun k_ => some k_ ≠ ((.slice Ao27 t469.length co27) : Value).ownBlock ∧ some k_ ≠ ((.slice Ao34 t478.length co34) : Value).ownBlock) (.slice Ao42 t487.length co42) t487) ∧ Aside0 (wc.heap[gb458]? = some (.cells #[.string a0_0, .int .i64 a0_1, .bool a0_2, .string a0_3, (.slice A0_4 l0_4.length c0_4)] 24 (0, 0))) ∧ Aside0 (wc.heap[gb459]? = some (.cells #[.string a1_0, .int .i64 a1_1, .bool a1_2, .string a1_3, (.slice A1_4 l1_4.length c1_4)] 24 (0, 0))) ∧ Aside0 (wc.heap[gb473]? = some (.cells #[.string t465, .int .i64 t466, .bool t467, .string t468, (.slice Ao27 t469.length co27)] 24 (0, 0))) ∧ Aside0 (wc.heap[gb482]? = some (.cells #[.string t474, .int .i64 t475, .bool t476, .string t477, (.slice Ao34 t478.length co34)] 24 (0, 0))) ∧ Aside0 (wc.heap[gb491]? = some (.cells #[.string t483, .int .i64 t484, .bool t485, .string t486, (.slice Ao42 t487.length co42)] 24 (0, 0))) ∧ Aside0 (Below w.heap.size w wc))
     case first =>
      have H := HC21.out
      clear HC21
      replace H := Option.bind_eq_some_iff.mp H
      obtain ⟨t492, A430, H⟩ := H
      replace H : (if t492 = true then ((cofferref13_Same.f kj6 t474 t475 t476 t477 t478 a0_0 a0_1 a0_2 a0_3 l0_4).bind fun t493 => (if t493 = true then ((cofferref13_Same.f kj6 t483 t484 t485 t486 t487 a1_0 a1_1 a1_2 a1_3 l1_4).bind fun t494 => (cofferlaw13_VersionApart.j1 kj6 t460 (!t494) a0_0 a0_1 a0_2 a0_3 l0_4 a1_0 a1_1 a1_2 a1_3 l1_4 t465 t466 t467 t468 t469 t474 t475 t476 t477 t478 t483 t484 t485 t486 t487)) else (cofferlaw13_VersionApart.j1 kj6 t460 true a0_0 a0_1 a0_2 a0_3 l0_4 a1_0 a1_1 a1_2 a1_3 l1_4 t465 t466 t467 t468 t469 t474 t475 t476 t477 t478 t483 t484 t485 t486 t487))) else (cofferlaw13_VersionApart.j1 kj6 t460 true a0_0 a0_1 a0_2 a0_3 l0_4 a1_0 a1_1 a1_2 a1_3 l1_4 t465 t466 t467 t468 t469 t474 t475 t476 t477 t478 t483 t484 t485 t486 t487)) = some r := H
      have A43 := Aside0.mk A430
      clear A430
      by_cases c44 : t492 = true
      ·subst c44
       have H1 : ((cofferref13_Same.f kj6 t474 t475 t476 t477 t478 a0_0 a0_1 a0_2 a0_3 l0_4).bind fun t493 => (if t493 = true then ((cofferref13_Same.f kj6 t483 t484 t485 t486 t487 a1_0 a1_1 a1_2 a1_3 l1_4).bind fun t494 => (cofferlaw13_VersionApart.j1 kj6 t460 (!t494) a0_0 a0_1 a0_2 a0_3 l0_4 a1_0 a1_1 a1_2 a1_3 l1_4 t465 t466 t467 t468 t469 t474 t475 t476 t477 t478 t483 t484 t485 t486 t487)) else (cofferlaw13_VersionApart.j1 kj6 t460 true a0_0 a0_1 a0_2 a0_3 l0_4 a1_0 a1_1 a1_2 a1_3 l1_4 t465 t466 t467 t468 t469 t474 t475 t476 t477 t478 t483 t484 t485 t486 t487))) = some r := by rw [if_pos rfl] at H; exact H
       clear H
       have H := H1
       clear H1
       replace H := Option.bind_eq_some_iff.mp H
       obtain ⟨t493, A450, H⟩ := H
       replace H : (if t493 = true then ((cofferref13_Same.f kj6 t483 t484 t485 t486 t487 a1_0 a1_1 a1_2 a1_3 l1_4).bind fun t494 => (cofferlaw13_VersionApart.j1 kj6 t460 (!t494) a0_0 a0_1 a0_2 a0_3 l0_4 a1_0 a1_1 a1_2 a1_3 l1_4 t465 t466 t467 t468 t469 t474 t475 t476 t477 t478 t483 t484 t485 t486 t487)) else (cofferlaw13_VersionApart.j1 kj6 t460 true a0_0 a0_1 a0_2 a0_3 l0_4 a1_0 a1_1 a1_2 a1_3 l1_4 t465 t466 t467 t468 t469 t474 t475 t476 t477 t478 t483 t484 t485 t486 t487)) = some r := H
       have A45 := Aside0.mk A450
       clear A450
       by_cases c46 : t493 = true
       ·subst c46
        have H1 : ((cofferref13_Same.f kj6 t483 t484 t485 t486 t487 a1_0 a1_1 a1_2 a1_3 l1_4).bind fun t494 => (cofferlaw13_VersionApart.j1 kj6 t460 (!t494) a0_0 a0_1 a0_2 a0_3 l0_4 a1_0 a1_1 a1_2 a1_3 l1_4 t465 t466 t467 t468 t469 t474 t475 t476 t477 t478 t483 t484 t485 t486 t487)) = some r := by rw [if_pos rfl] at H; exact H
        clear H
        have H := H1
        clear H1
        replace H := Option.bind_eq_some_iff.mp H
        obtain ⟨t494, A470, H⟩ := H
        replace H : (cofferlaw13_VersionApart.j1 kj6 t460 (!t494) a0_0 a0_1 a0_2 a0_3 l0_4 a1_0 a1_1 a1_2 a1_3 l1_4 t465 t466 t467 t468 t469 t474 t475 t476 t477 t478 t483 t484 t485 t486 t487) = some r := H
        have A47 := Aside0.mk A470
        clear A470
        have H' := Aside0.mk H
        clear H
        have hnb48 := NB473_458.out
        have hnc48 := NB458_473.out
        have hnb49 := NB473_459.out
        have hnc49 := NB459_473.out
        have hnb50 := NB473_482.out
        have hnc50 := NB482_473.out
        have hnb51 := NB473_491.out
        have hnc51 := NB491_473.out
        have hcz52_0 : w36.cell? ⟨gb473, 0, none⟩ = some (.string t465) := (blk_cell BK473.out 0).trans rfl
        have hcz52_1 : w36.cell? ⟨gb473, 1, none⟩ = some (.int .i64 t466) := (blk_cell BK473.out 1).trans rfl
        have hcz52_2 : w36.cell? ⟨gb473, 2, none⟩ = some (.bool t467) := (blk_cell BK473.out 2).trans rfl
        have hcz52_3 : w36.cell? ⟨gb473, 3, none⟩ = some (.string t468) := (blk_cell BK473.out 3).trans rfl
        have hcz52_4 : w36.cell? ⟨gb473, 4, none⟩ = some (.slice Ao27 t469.length co27) := (blk_cell BK473.out 4).trans rfl
        have hfz52_0 := blk_frozen BK473.out 0
        have hfz52_1 := blk_frozen BK473.out 1
        have hfz52_2 := blk_frozen BK473.out 2
        have hfz52_3 := blk_frozen BK473.out 3
        have hfz52_4 := blk_frozen BK473.out 4
        have hnb53 := NB458_459.out
        have hnc53 := NB459_458.out
        have hnb54 := NB458_482.out
        have hnc54 := NB482_458.out
        have hnb55 := NB458_491.out
        have hnc55 := NB491_458.out
        have hcz56_0 : w36.cell? ⟨gb458, 0, none⟩ = some (.string a0_0) := (blk_cell BK458.out 0).trans rfl
        have hcz56_1 : w36.cell? ⟨gb458, 1, none⟩ = some (.int .i64 a0_1) := (blk_cell BK458.out 1).trans rfl
        have hcz56_2 : w36.cell? ⟨gb458, 2, none⟩ = some (.bool a0_2) := (blk_cell BK458.out 2).trans rfl
        have hcz56_3 : w36.cell? ⟨gb458, 3, none⟩ = some (.string a0_3) := (blk_cell BK458.out 3).trans rfl
        have hcz56_4 : w36.cell? ⟨gb458, 4, none⟩ = some (.slice A0_4 l0_4.length c0_4) := (blk_cell BK458.out 4).trans rfl
        have hfz56_0 := blk_frozen BK458.out 0
        have hfz56_1 := blk_frozen BK458.out 1
        have hfz56_2 := blk_frozen BK458.out 2
        have hfz56_3 := blk_frozen BK458.out 3
        have hfz56_4 := blk_frozen BK458.out 4
        go_wp2_with (first | ((with_reducible refine gate_callee (f := 15) rfl ?_); refine goesL_ (some 57) rfl rfl Try.func15 (by kernel_rfl) rfl #[.agg #[.string t465, .int .i64 t466, .bool t467, .string t468, .slice Ao27 t469.length co27], .agg #[.string a0_0, .int .i64 a0_1, .bool a0_2, .string a0_3, .slice A0_4 l0_4.length c0_4]] rfl (by (try simp only [List.map_toArray, List.map_cons, List.map_nil]); first | done | rfl | (simp only [List.length_drop, List.length_take]; rfl)) ?_; (with_reducible refine (cofferref13_Same.calls kj6 t465 t466 t467 t468 _ _ t469 a0_0 a0_1 a0_2 a0_3 _ _ l0_4 true _ ?side1 ?side2 ?side3 ?side4 A43.out).mono ?_); (case side1 => refine (Kd.R_reads' (e := 31) (base := w.heap.size) (ok := fun k_ => ((True ∧ some k_ ≠ (.slice Ao34 t478.length co34 : Value).ownBlock) ∧ some k_ ≠ (.slice Ao42 t487.length co42 : Value).ownBlock)) (n := t469.length) (c := co27) ?_).2.2; exact (by (with_reducible repeat (first | apply Kd.R_alloc | apply Kd.R_drewN | apply Kd.R_drew)); exact (Kd.R_mono (Kd.R_far (p := ⟨gb491, 4, none⟩) (Kd.R_far (p := ⟨gb491, 3, none⟩) (Kd.R_far (p := ⟨gb491, 2, none⟩) (Kd.R_far (p := ⟨gb491, 1, none⟩) (Kd.R_far (p := ⟨gb491, 0, none⟩) (Kd.R_types HO471.out BK491.out (by decide)) (fun _ hk => hk.2) (.string t483)) (fun _ hk => hk.2) (.int .i64 t484)) (fun _ hk => hk.2) (.bool t485)) (fun _ hk => hk.2) (.string t486)) (fun _ hk => hk.2) (.slice Ao42 t487.length co42)) (fun _ h_ => h_.1)))); (case side2 => exact (Kd.R_reads' HO471.out).2.1); (case side3 => exact Kd.C_below HR0_4.out (by repeat (first | (with_reducible first | exact HB.out | apply below_alloc | apply pw_below_drewN | apply below_drew1 | refine below_set ?_ GE458.out | refine below_set ?_ GE459.out | refine below_set ?_ GE473.out | refine below_set ?_ GE482.out | refine below_set ?_ GE491.out) | exact HB.out))); (case side4 => exact HC0_4.out); rintro e w57 ⟨rfl, hb⟩; refine ⟨_, rfl, ?_⟩; have n0_ := Aside0.mk (Kd.R_below (by (with_reducible repeat (first | apply Kd.R_alloc | apply Kd.R_drewN | apply Kd.R_drew)); exact (Kd.R_mono (Kd.R_far (p := ⟨gb491, 4, none⟩) (Kd.R_far (p := ⟨gb491, 3, none⟩) (Kd.R_far (p := ⟨gb491, 2, none⟩) (Kd.R_far (p := ⟨gb491, 1, none⟩) (Kd.R_far (p := ⟨gb491, 0, none⟩) (Kd.R_types HO471.out BK491.out (by decide)) (fun _ hk => hk.2) (.string t483)) (fun _ hk => hk.2) (.int .i64 t484)) (fun _ hk => hk.2) (.bool t485)) (fun _ hk => hk.2) (.string t486)) (fun _ hk => hk.2) (.slice Ao42 t487.length co42)) (fun _ h_ => h_.1))) hb); have n1_ := Aside0.mk (Kd.R_below (by (with_reducible repeat (first | apply Kd.R_alloc | apply Kd.R_drewN | apply Kd.R_drew)); exact (Kd.R_mono (Kd.R_far (p := ⟨gb491, 4, none⟩) (Kd.R_far (p := ⟨gb491, 3, none⟩) (Kd.R_far (p := ⟨gb491, 2, none⟩) (Kd.R_far (p := ⟨gb491, 1, none⟩) (Kd.R_far (p := ⟨gb491, 0, none⟩) (Kd.R_types HO480.out BK491.out (by decide)) (fun _ hk => hk.2) (.string t483)) (fun _ hk => hk.2) (.int .i64 t484)) (fun _ hk => hk.2) (.bool t485)) (fun _ hk => hk.2) (.string t486)) (fun _ hk => hk.2) (.slice Ao42 t487.length co42)) (fun _ h_ => h_.1))) hb); have n2_ := Aside0.mk (Kd.R_below (by (with_reducible repeat (first | apply Kd.R_alloc | apply Kd.R_drewN | apply Kd.R_drew)); exact (Kd.R_mono (Kd.R_far (p := ⟨gb491, 4, none⟩) (Kd.R_far (p := ⟨gb491, 3, none⟩) (Kd.R_far (p := ⟨gb491, 2, none⟩) (Kd.R_far (p := ⟨gb491, 1, none⟩) (Kd.R_far (p := ⟨gb491, 0, none⟩) (Kd.R_types HO489.out BK491.out (by decide)) (fun _ hk => hk.2) (.string t483)) (fun _ hk => hk.2) (.int .i64 t484)) (fun _ hk => hk.2) (.bool t485)) (fun _ hk => hk.2) (.string t486)) (fun _ hk => hk.2) (.slice Ao42 t487.length co42)) (fun _ h_ => h_.1))) hb); have n3_ := Aside0.mk (blk_below (g := gb458) (o := .cells #[.string a0_0, .int .i64 a0_1, .bool a0_2, .string a0_3, .slice A0_4 l0_4.length c0_4] 24 (0, 0)) (by (with_reducible repeat (first | refine blk_drewN ?_ _ | refine blk_drew ?_ | refine blk_alloc ?_ _)); refine blk_far ?_ NB458_491.out _; (with_reducible repeat (first | refine blk_drewN ?_ _ | refine blk_drew ?_ | refine blk_alloc ?_ _)); refine blk_far ?_ NB458_491.out _; (with_reducible repeat (first | refine blk_drewN ?_ _ | refine blk_drew ?_ | refine blk_alloc ?_ _)); refine blk_far ?_ NB458_491.out _; (with_reducible repeat (first | refine blk_drewN ?_ _ | refine blk_drew ?_ | refine blk_alloc ?_ _)); refine blk_far ?_ NB458_491.out _; (with_reducible repeat (first | refine blk_drewN ?_ _ | refine blk_drew ?_ | refine blk_alloc ?_ _)); refine blk_far ?_ NB458_491.out _; (with_reducible repeat (first | refine blk_drewN ?_ _ | refine blk_drew ?_ | refine blk_alloc ?_ _)); exact BK458.out) hb); have n4_ := Aside0.mk (blk_below (g := gb459) (o := .cells #[.string a1_0, .int .i64 a1_1, .bool a1_2, .string a1_3, .slice A1_4 l1_4.length c1_4] 24 (0, 0)) (by (with_reducible repeat (first | refine blk_drewN ?_ _ | refine blk_drew ?_ | refine blk_alloc ?_ _)); refine blk_far ?_ NB459_491.out _; (with_reducible repeat (first | refine blk_drewN ?_ _ | refine blk_drew ?_ | refine blk_alloc ?_ _)); refine blk_far ?_ NB459_491.out _; (with_reducible repeat (first | refine blk_drewN ?_ _ | refine blk_drew ?_ | refine blk_alloc ?_ _)); refine blk_far ?_ NB459_491.out _; (with_reducible repeat (first | refine blk_drewN ?_ _ | refine blk_drew ?_ | refine blk_alloc ?_ _)); refine blk_far ?_ NB459_491.out _; (with_reducible repeat (first | refine blk_drewN ?_ _ | refine blk_drew ?_ | refine blk_alloc ?_ _)); refine blk_far ?_ NB459_491.out _; (with_reducible repeat (first | refine blk_drewN ?_ _ | refine blk_drew ?_ | refine blk_alloc ?_ _)); exact BK459.out) hb); have n5_ := Aside0.mk (blk_below (g := gb473) (o := .cells #[.string t465, .int .i64 t466, .bool t467, .string t468, .slice Ao27 t469.length co27] 24 (0, 0)) (by (with_reducible repeat (first | refine blk_drewN ?_ _ | refine blk_drew ?_ | refine blk_alloc ?_ _)); refine blk_far ?_ NB473_491.out _; (with_reducible repeat (first | refine blk_drewN ?_ _ | refine blk_drew ?_ | refine blk_alloc ?_ _)); refine blk_far ?_ NB473_491.out _; (with_reducible repeat (first | refine blk_drewN ?_ _ | refine blk_drew ?_ | refine blk_alloc ?_ _)); refine blk_far ?_ NB473_491.out _; (with_reducible repeat (first | refine blk_drewN ?_ _ | refine blk_drew ?_ | refine blk_alloc ?_ _)); refine blk_far ?_ NB473_491.out _; (with_reducible repeat (first | refine blk_drewN ?_ _ | refine blk_drew ?_ | refine blk_alloc ?_ _)); refine blk_far ?_ NB473_491.out _; (with_reducible repeat (first | refine blk_drewN ?_ _ | refine blk_drew ?_ | refine blk_alloc ?_ _)); exact BK473.out) hb); have n6_ := Aside0.mk (blk_below (g := gb482) (o := .cells #[.string t474, .int .i64 t475, .bool t476, .string t477, .slice Ao34 t478.length co34] 24 (0, 0)) (by (with_reducible repeat (first | refine blk_drewN ?_ _ | refine blk_drew ?_ | refine blk_alloc ?_ _)); refine blk_far ?_ NB482_491.out _; (with_reducible repeat (first | refine blk_drewN ?_ _ | refine blk_drew ?_ | refine blk_alloc ?_ _)); refine blk_far ?_ NB482_491.out _; (with_reducible repeat (first | refine blk_drewN ?_ _ | refine blk_drew ?_ | refine blk_alloc ?_ _)); refine blk_far ?_ NB482_491.out _; (with_reducible repeat (first | refine blk_drewN ?_ _ | refine blk_drew ?_ | refine blk_alloc ?_ _)); refine blk_far ?_ NB482_491.out _; (with_reducible repeat (first | refine blk_drewN ?_ _ | refine blk_drew ?_ | refine blk_alloc ?_ _)); refine blk_far ?_ NB482_491.out _; (with_reducible repeat (first | refine blk_drewN ?_ _ | refine blk_drew ?_ | refine blk_alloc ?_ _)); exact BK482.out) hb); have n7_ := Aside0.mk (blk_below (g := gb491) (o := .cells #[.string t483, .int .i64 t484, .bool t485, .string t486, .slice Ao42 t487.length co42] 24 (0, 0)) (by (with_reducible repeat (first | refine blk_drewN ?_ _ | refine blk_drew ?_ | refine blk_alloc ?_ _)); refine blk_put (cs := #[.string t483, .int .i64 t484, .bool t485, .string t486, .slice none 0 0]) ?_ 4 _ rfl; (with_reducible repeat (first | refine blk_drewN ?_ _ | refine blk_drew ?_ | refine blk_alloc ?_ _)); refine blk_put (cs := #[.string t483, .int .i64 t484, .bool t485, .string (⟨#[]⟩ : ByteArray), .slice none 0 0]) ?_ 3 _ rfl; (with_reducible repeat (first | refine blk_drewN ?_ _ | refine blk_drew ?_ | refine blk_alloc ?_ _)); refine blk_put (cs := #[.string t483, .int .i64 t484, .bool false, .string (⟨#[]⟩ : ByteArray), .slice none 0 0]) ?_ 2 _ rfl; (with_reducible repeat (first | refine blk_drewN ?_ _ | refine blk_drew ?_ | refine blk_alloc ?_ _)); refine blk_put (cs := #[.string t483, .int .i64 0, .bool false, .string (⟨#[]⟩ : ByteArray), .slice none 0 0]) ?_ 1 _ rfl; (with_reducible repeat (first | refine blk_drewN ?_ _ | refine blk_drew ?_ | refine blk_alloc ?_ _)); refine blk_put (cs := #[.string (⟨#[]⟩ : ByteArray), .int .i64 0, .bool false, .string (⟨#[]⟩ : ByteArray), .slice none 0 0]) ?_ 0 _ rfl; (with_reducible repeat (first | refine blk_drewN ?_ _ | refine blk_drew ?_ | refine blk_alloc ?_ _)); exact BK491.out) hb); have n8_ := Aside0.mk (below_step (by repeat (first | (with_reducible first | exact HB.out | apply below_alloc | apply pw_below_drewN | apply below_drew1 | refine below_set ?_ GE458.out | refine below_set ?_ GE459.out | refine below_set ?_ GE473.out | refine below_set ?_ GE482.out | refine below_set ?_ GE491.out) | exact HB.out)) hb); clear HO471; clear HO480; clear HO489; clear BK458; clear BK459; clear BK473; clear BK482; clear BK491; clear HB; have HO471 := n0_; have HO480 := n1_; have HO489 := n2_; have BK458 := n3_; have BK459 := n4_; have BK473 := n5_; have BK482 := n6_; have BK491 := n7_; have HB := n8_; clear n0_ n1_ n2_ n3_ n4_ n5_ n6_ n7_ n8_; (try clear hb); (try clear hb2); (try clear hk); (try clear hi); have hnb58 := NB482_459.out; have hnc58 := NB459_482.out; have hnb59 := NB482_491.out; have hnc59 := NB491_482.out; have hcz60_0 : w57.cell? ⟨gb482, 0, none⟩ = some (.string t474) := (blk_cell BK482.out 0).trans rfl; have hcz60_1 : w57.cell? ⟨gb482, 1, none⟩ = some (.int .i64 t475) := (blk_cell BK482.out 1).trans rfl; have hcz60_2 : w57.cell? ⟨gb482, 2, none⟩ = some (.bool t476) := (blk_cell BK482.out 2).trans rfl; have hcz60_3 : w57.cell? ⟨gb482, 3, none⟩ = some (.string t477) := (blk_cell BK482.out 3).trans rfl; have hcz60_4 : w57.cell? ⟨gb482, 4, none⟩ = some (.slice Ao34 t478.length co34) := (blk_cell BK482.out 4).trans rfl; have hfz60_0 := blk_frozen BK482.out 0; have hfz60_1 := blk_frozen BK482.out 1; have hfz60_2 := blk_frozen BK482.out 2; have hfz60_3 := blk_frozen BK482.out 3; have hfz60_4 := blk_frozen BK482.out 4; have hcz61_0 : w57.cell? ⟨gb458, 0, none⟩ = some (.string a0_0) := (blk_cell BK458.out 0).trans rfl; have hcz61_1 : w57.cell? ⟨gb458, 1, none⟩ = some (.int .i64 a0_1) := (blk_cell BK458.out 1).trans rfl; have hcz61_2 : w57.cell? ⟨gb458, 2, none⟩ = some (.bool a0_2) := (blk_cell BK458.out 2).trans rfl; have hcz61_3 : w57.cell? ⟨gb458, 3, none⟩ = some (.string a0_3) := (blk_cell BK458.out 3).trans rfl; have hcz61_4 : w57.cell? ⟨gb458, 4, none⟩ = some (.slice A0_4 l0_4.length c0_4) := (blk_cell BK458.out 4).trans rfl; have hfz61_0 := blk_frozen BK458.out 0; have hfz61_1 := blk_frozen BK458.out 1; have hfz61_2 := blk_frozen BK458.out 2; have hfz61_3 := blk_frozen BK458.out 3; have hfz61_4 := blk_frozen BK458.out 4) | (go_at_call 15; (with_reducible refine (cofferref13_Same.calls kj6 t474 t475 t476 t477 _ _ t478 a0_0 a0_1 a0_2 a0_3 _ _ l0_4 true _ ?side1 ?side2 ?side3 ?side4 A45.out).mono ?_); (case side1 => repeat (first | exact (Kd.R_reads' HO480.out).2.2 | (with_reducible refine Kd.C_alloc ?_ _) | (with_reducible refine Kd.C_drewN ?_ _) | (with_reducible refine Kd.C_drew ?_))); (case side2 => exact (Kd.R_reads' HO480.out).2.1); (case side3 => repeat (first | exact (Kd.C_below HR0_4.out HB.out) | (with_reducible refine Kd.C_alloc ?_ _) | (with_reducible refine Kd.C_drewN ?_ _) | (with_reducible refine Kd.C_drew ?_))); (case side4 => exact HC0_4.out); rintro e w62 ⟨rfl, hb⟩; have n0_ := Aside0.mk (Kd.R_below (by (with_reducible repeat (first | apply Kd.R_alloc | apply Kd.R_drewN | apply Kd.R_drew)); exact HO471.out) hb); have n1_ := Aside0.mk (Kd.R_below (by (with_reducible repeat (first | apply Kd.R_alloc | apply Kd.R_drewN | apply Kd.R_drew)); exact HO480.out) hb); have n2_ := Aside0.mk (Kd.R_below (by (with_reducible repeat (first | apply Kd.R_alloc | apply Kd.R_drewN | apply Kd.R_drew)); exact HO489.out) hb); have n3_ := Aside0.mk (blk_below (g := gb458) (o := .cells #[.string a0_0, .int .i64 a0_1, .bool a0_2, .string a0_3, .slice A0_4 l0_4.length c0_4] 24 (0, 0)) (by (with_reducible repeat (first | refine blk_drewN ?_ _ | refine blk_drew ?_ | refine blk_alloc ?_ _)); exact BK458.out) hb); have n4_ := Aside0.mk (blk_below (g := gb459) (o := .cells #[.string a1_0, .int .i64 a1_1, .bool a1_2, .string a1_3, .slice A1_4 l1_4.length c1_4] 24 (0, 0)) (by (with_reducible repeat (first | refine blk_drewN ?_ _ | refine blk_drew ?_ | refine blk_alloc ?_ _)); exact BK459.out) hb); have n5_ := Aside0.mk (blk_below (g := gb473) (o := .cells #[.string t465, .int .i64 t466, .bool t467, .string t468, .slice Ao27 t469.length co27] 24 (0, 0)) (by (with_reducible repeat (first | refine blk_drewN ?_ _ | refine blk_drew ?_ | refine blk_alloc ?_ _)); exact BK473.out) hb); have n6_ := Aside0.mk (blk_below (g := gb482) (o := .cells #[.string t474, .int .i64 t475, .bool t476, .string t477, .slice Ao34 t478.length co34] 24 (0, 0)) (by (with_reducible repeat (first | refine blk_drewN ?_ _ | refine blk_drew ?_ | refine blk_alloc ?_ _)); exact BK482.out) hb); have n7_ := Aside0.mk (blk_below (g := gb491) (o := .cells #[.string t483, .int .i64 t484, .bool t485, .string t486, .slice Ao42 t487.length co42] 24 (0, 0)) (by (with_reducible repeat (first | refine blk_drewN ?_ _ | refine blk_drew ?_ | refine blk_alloc ?_ _)); exact BK491.out) hb); have n8_ := Aside0.mk (below_step (by repeat (first | (with_reducible first | exact HB.out | apply below_alloc | apply pw_below_drewN | apply below_drew1 | refine below_set ?_ GE458.out | refine below_set ?_ GE459.out | refine below_set ?_ GE473.out | refine below_set ?_ GE482.out | refine below_set ?_ GE491.out) | exact HB.out)) hb); clear HO471; clear HO480; clear HO489; clear BK458; clear BK459; clear BK473; clear BK482; clear BK491; clear HB; have HO471 := n0_; have HO480 := n1_; have HO489 := n2_; have BK458 := n3_; have BK459 := n4_; have BK473 := n5_; have BK482 := n6_; have BK491 := n7_; have HB := n8_; clear n0_ n1_ n2_ n3_ n4_ n5_ n6_ n7_ n8_; (try clear hb); (try clear hb2); (try clear hk); (try clear hi); have hnb63 := NB491_459.out; have hnc63 := NB459_491.out; have hcz64_0 : w62.cell? ⟨gb491, 0, none⟩ = some (.string t483) := (blk_cell BK491.out 0).trans rfl; have hcz64_1 : w62.cell? ⟨gb491, 1, none⟩ = some (.int .i64 t484) := (blk_cell BK491.out 1).trans rfl; have hcz64_2 : w62.cell? ⟨gb491, 2, none⟩ = some (.bool t485) := (blk_cell BK491.out 2).trans rfl; have hcz64_3 : w62.cell? ⟨gb491, 3, none⟩ = some (.string t486) := (blk_cell BK491.out 3).trans rfl; have hcz64_4 : w62.cell? ⟨gb491, 4, none⟩ = some (.slice Ao42 t487.length co42) := (blk_cell BK491.out 4).trans rfl; have hfz64_0 := blk_frozen BK491.out 0; have hfz64_1 := blk_frozen BK491.out 1; have hfz64_2 := blk_frozen BK491.out 2; have hfz64_3 := blk_frozen BK491.out 3; have hfz64_4 := blk_frozen BK491.out 4; have hcz65_0 : w62.cell? ⟨gb459, 0, none⟩ = some (.string a1_0) := (blk_cell BK459.out 0).trans rfl; have hcz65_1 : w62.cell? ⟨gb459, 1, none⟩ = some (.int .i64 a1_1) := (blk_cell BK459.out 1).trans rfl; have hcz65_2 : w62.cell? ⟨gb459, 2, none⟩ = some (.bool a1_2) := (blk_cell BK459.out 2).trans rfl; have hcz65_3 : w62.cell? ⟨gb459, 3, none⟩ = some (.string a1_3) := (blk_cell BK459.out 3).trans rfl; have hcz65_4 : w62.cell? ⟨gb459, 4, none⟩ = some (.slice A1_4 l1_4.length c1_4) := (blk_cell BK459.out 4).trans rfl; have hfz65_0 := blk_frozen BK459.out 0; have hfz65_1 := blk_frozen BK459.out 1; have hfz65_2 := blk_frozen BK459.out 2; have hfz65_3 := blk_frozen BK459.out 3; have hfz65_4 := blk_frozen BK459.out 4) | (go_at_call 15; (with_reducible refine (cofferref13_Same.calls kj6 t483 t484 t485 t486 _ _ t487 a1_0 a1_1 a1_2 a1_3 _ _ l1_4 t494 _ ?side1 ?side2 ?side3 ?side4 A47.out).mono ?_); (case side1 => repeat (first | exact (Kd.R_reads' HO489.out).2.2 | (with_reducible refine Kd.C_alloc ?_ _) | (with_reducible refine Kd.C_drewN ?_ _) | (with_reducible refine Kd.C_drew ?_))); (case side2 => exact (Kd.R_reads' HO489.out).2.1); (case side3 => repeat (first | exact (Kd.C_below HR1_4.out HB.out) | (with_reducible refine Kd.C_alloc ?_ _) | (with_reducible refine Kd.C_drewN ?_ _) | (with_reducible refine Kd.C_drew ?_))); (case side4 => exact HC1_4.out); rintro e w66 ⟨rfl, hb⟩; have n0_ := Aside0.mk (Kd.R_below (by (with_reducible repeat (first | apply Kd.R_alloc | apply Kd.R_drewN | apply Kd.R_drew)); exact HO471.out) hb); have n1_ := Aside0.mk (Kd.R_below (by (with_reducible repeat (first | apply Kd.R_alloc | apply Kd.R_drewN | apply Kd.R_drew)); exact HO480.out) hb); have n2_ := Aside0.mk (Kd.R_below (by (with_reducible repeat (first | apply Kd.R_alloc | apply Kd.R_drewN | apply Kd.R_drew)); exact HO489.out) hb); have n3_ := Aside0.mk (blk_below (g := gb458) (o := .cells #[.string a0_0, .int .i64 a0_1, .bool a0_2, .string a0_3, .slice A0_4 l0_4.length c0_4] 24 (0, 0)) (by (with_reducible repeat (first | refine blk_drewN ?_ _ | refine blk_drew ?_ | refine blk_alloc ?_ _)); exact BK458.out) hb); have n4_ := Aside0.mk (blk_below (g := gb459) (o := .cells #[.string a1_0, .int .i64 a1_1, .bool a1_2, .string a1_3, .slice A1_4 l1_4.length c1_4] 24 (0, 0)) (by (with_reducible repeat (first | refine blk_drewN ?_ _ | refine blk_drew ?_ | refine blk_alloc ?_ _)); exact BK459.out) hb); have n5_ := Aside0.mk (blk_below (g := gb473) (o := .cells #[.string t465, .int .i64 t466, .bool t467, .string t468, .slice Ao27 t469.length co27] 24 (0, 0)) (by (with_reducible repeat (first | refine blk_drewN ?_ _ | refine blk_drew ?_ | refine blk_alloc ?_ _)); exact BK473.out) hb); have n6_ := Aside0.mk (blk_below (g := gb482) (o := .cells #[.string t474, .int .i64 t475, .bool t476, .string t477, .slice Ao34 t478.length co34] 24 (0, 0)) (by (with_reducible repeat (first | refine blk_drewN ?_ _ | refine blk_drew ?_ | refine blk_alloc ?_ _)); exact BK482.out) hb); have n7_ := Aside0.mk (blk_below (g := gb491) (o := .cells #[.string t483, .int .i64 t484, .bool t485, .string t486, .slice Ao42 t487.length co42] 24 (0, 0)) (by (with_reducible repeat (first | refine blk_drewN ?_ _ | refine blk_drew ?_ | refine blk_alloc ?_ _)); exact BK491.out) hb); have n8_ := Aside0.mk (below_step (by repeat (first | (with_reducible first | exact HB.out | apply below_alloc | apply pw_below_drewN | apply below_drew1 | refine below_set ?_ GE458.out | refine below_set ?_ GE459.out | refine below_set ?_ GE473.out | refine below_set ?_ GE482.out | refine below_set ?_ GE491.out) | exact HB.out)) hb); clear HO471; clear HO480; clear HO489; clear BK458; clear BK459; clear BK473; clear BK482; clear BK491; clear HB; have HO471 := n0_; have HO480 := n1_; have HO489 := n2_; have BK458 := n3_; have BK459 := n4_; have BK473 := n5_; have BK482 := n6_; have BK491 := n7_; have HB := n8_; clear n0_ n1_ n2_ n3_ n4_ n5_ n6_ n7_ n8_; (try clear hb); (try clear hb2); (try clear hk); (try clear hi)))
        go_meet
        case rel => exact ⟨_, (!t494), (by first | rfl | (simp; done) | (simp [Go.Proofs.Ytdhkcklgnnilfaa.Z.bne_nil, Go.Proofs.Ytdhkcklgnnilfaa.Z.beq_nil]; done) | (simp [*]; done)), H', ⟨by have := HJ6.out; first | omega | exact Nat.le_refl _⟩, ⟨by (with_reducible repeat (first | apply Kd.R_alloc | apply Kd.R_drewN | apply Kd.R_drew)); exact Kd.R_mono HO471.out (fun _ hk => ⟨hk.1.2, hk.2⟩)⟩, ⟨by (with_reducible repeat (first | apply Kd.R_alloc | apply Kd.R_drewN | apply Kd.R_drew)); exact Kd.R_mono HO480.out (fun _ hk => ⟨hk.1.2, hk.2⟩)⟩, ⟨by (with_reducible repeat (first | apply Kd.R_alloc | apply Kd.R_drewN | apply Kd.R_drew)); exact Kd.R_mono HO489.out (fun _ hk => ⟨hk.1.2, hk.2⟩)⟩, ⟨by (with_reducible repeat (first | refine blk_drewN ?_ _ | refine blk_drew ?_ | refine blk_alloc ?_ _)); exact BK458.out⟩, ⟨by (with_reducible repeat (first | refine blk_drewN ?_ _ | refine blk_drew ?_ | refine blk_alloc ?_ _)); exact BK459.out⟩, ⟨by (with_reducible repeat (first | refine blk_drewN ?_ _ | refine blk_drew ?_ | refine blk_alloc ?_ _)); exact BK473.out⟩, ⟨by (with_reducible repeat (first | refine blk_drewN ?_ _ | refine blk_drew ?_ | refine blk_alloc ?_ _)); exact BK482.out⟩, ⟨by (with_reducible repeat (first | refine blk_drewN ?_ _ | refine blk_drew ?_ | refine blk_alloc ?_ _)); exact BK491.out⟩, ⟨by repeat (first | (with_reducible first | exact HB.out | apply below_alloc | apply pw_below_drewN | apply below_drew1 | refine below_set ?_ GE458.out | refine below_set ?_ GE459.out | refine below_set ?_ GE473.out | refine below_set ?_ GE482.out | refine below_set ?_ GE491.out) | exact HB.out)⟩⟩
       ·replace c46 := Bool.eq_false_iff.mpr c46
        subst c46
        have H1 : (cofferlaw13_VersionApart.j1 kj6 t460 true a0_0 a0_1 a0_2 a0_3 l0_4 a1_0 a1_1 a1_2 a1_3 l1_4 t465 t466 t467 t468 t469 t474 t475 t476 t477 t478 t483 t484 t485 t486 t487) = some r := by rw [if_neg (show ¬ (false = true) by decide)] at H; exact H
        clear H
        have H := H1
        clear H1
        have H' := Aside0.mk H
        clear H
        have hnb67 := NB473_458.out
        have hnc67 := NB458_473.out
        have hnb68 := NB473_459.out
        have hnc68 := NB459_473.out
        have hnb69 := NB473_482.out
        have hnc69 := NB482_473.out
        have hnb70 := NB473_491.out
        have hnc70 := NB491_473.out
        have hcz71_0 : w36.cell? ⟨gb473, 0, none⟩ = some (.string t465) := (blk_cell BK473.out 0).trans rfl
        have hcz71_1 : w36.cell? ⟨gb473, 1, none⟩ = some (.int .i64 t466) := (blk_cell BK473.out 1).trans rfl
        have hcz71_2 : w36.cell? ⟨gb473, 2, none⟩ = some (.bool t467) := (blk_cell BK473.out 2).trans rfl
        have hcz71_3 : w36.cell? ⟨gb473, 3, none⟩ = some (.string t468) := (blk_cell BK473.out 3).trans rfl
        have hcz71_4 : w36.cell? ⟨gb473, 4, none⟩ = some (.slice Ao27 t469.length co27) := (blk_cell BK473.out 4).trans rfl
        have hfz71_0 := blk_frozen BK473.out 0
        have hfz71_1 := blk_frozen BK473.out 1
        have hfz71_2 := blk_frozen BK473.out 2
        have hfz71_3 := blk_frozen BK473.out 3
        have hfz71_4 := blk_frozen BK473.out 4
        have hnb72 := NB458_459.out
        have hnc72 := NB459_458.out
        have hnb73 := NB458_482.out
        have hnc73 := NB482_458.out
        have hnb74 := NB458_491.out
        have hnc74 := NB491_458.out
        have hcz75_0 : w36.cell? ⟨gb458, 0, none⟩ = some (.string a0_0) := (blk_cell BK458.out 0).trans rfl
        have hcz75_1 : w36.cell? ⟨gb458, 1, none⟩ = some (.int .i64 a0_1) := (blk_cell BK458.out 1).trans rfl
        have hcz75_2 : w36.cell? ⟨gb458, 2, none⟩ = some (.bool a0_2) := (blk_cell BK458.out 2).trans rfl
        have hcz75_3 : w36.cell? ⟨gb458, 3, none⟩ = some (.string a0_3) := (blk_cell BK458.out 3).trans rfl
        have hcz75_4 : w36.cell? ⟨gb458, 4, none⟩ = some (.slice A0_4 l0_4.length c0_4) := (blk_cell BK458.out 4).trans rfl
        have hfz75_0 := blk_frozen BK458.out 0
        have hfz75_1 := blk_frozen BK458.out 1
        have hfz75_2 := blk_frozen BK458.out 2
        have hfz75_3 := blk_frozen BK458.out 3
        have hfz75_4 := blk_frozen BK458.out 4
        go_wp2_with (first | ((with_reducible refine gate_callee (f := 15) rfl ?_); refine goesL_ (some 57) rfl rfl Try.func15 (by kernel_rfl) rfl #[.agg #[.string t465, .int .i64 t466, .bool t467, .string t468, .slice Ao27 t469.length co27], .agg #[.string a0_0, .int .i64 a0_1, .bool a0_2, .string a0_3, .slice A0_4 l0_4.length c0_4]] rfl (by (try simp only [List.map_toArray, List.map_cons, List.map_nil]); first | done | rfl | (simp only [List.length_drop, List.length_take]; rfl)) ?_; (with_reducible refine (cofferref13_Same.calls kj6 t465 t466 t467 t468 _ _ t469 a0_0 a0_1 a0_2 a0_3 _ _ l0_4 true _ ?side1 ?side2 ?side3 ?side4 A43.out).mono ?_); (case side1 => refine (Kd.R_reads' (e := 31) (base := w.heap.size) (ok := fun k_ => ((True ∧ some k_ ≠ (.slice Ao34 t478.length co34 : Value).ownBlock) ∧ some k_ ≠ (.slice Ao42 t487.length co42 : Value).ownBlock)) (n := t469.length) (c := co27) ?_).2.2; exact (by (with_reducible repeat (first | apply Kd.R_alloc | apply Kd.R_drewN | apply Kd.R_drew)); exact (Kd.R_mono (Kd.R_far (p := ⟨gb491, 4, none⟩) (Kd.R_far (p := ⟨gb491, 3, none⟩) (Kd.R_far (p := ⟨gb491, 2, none⟩) (Kd.R_far (p := ⟨gb491, 1, none⟩) (Kd.R_far (p := ⟨gb491, 0, none⟩) (Kd.R_types HO471.out BK491.out (by decide)) (fun _ hk => hk.2) (.string t483)) (fun _ hk => hk.2) (.int .i64 t484)) (fun _ hk => hk.2) (.bool t485)) (fun _ hk => hk.2) (.string t486)) (fun _ hk => hk.2) (.slice Ao42 t487.length co42)) (fun _ h_ => h_.1)))); (case side2 => exact (Kd.R_reads' HO471.out).2.1); (case side3 => exact Kd.C_below HR0_4.out (by repeat (first | (with_reducible first | exact HB.out | apply below_alloc | apply pw_below_drewN | apply below_drew1 | refine below_set ?_ GE458.out | refine below_set ?_ GE459.out | refine below_set ?_ GE473.out | refine below_set ?_ GE482.out | refine below_set ?_ GE491.out) | exact HB.out))); (case side4 => exact HC0_4.out); rintro e w76 ⟨rfl, hb⟩; refine ⟨_, rfl, ?_⟩; have n0_ := Aside0.mk (Kd.R_below (by (with_reducible repeat (first | apply Kd.R_alloc | apply Kd.R_drewN | apply Kd.R_drew)); exact (Kd.R_mono (Kd.R_far (p := ⟨gb491, 4, none⟩) (Kd.R_far (p := ⟨gb491, 3, none⟩) (Kd.R_far (p := ⟨gb491, 2, none⟩) (Kd.R_far (p := ⟨gb491, 1, none⟩) (Kd.R_far (p := ⟨gb491, 0, none⟩) (Kd.R_types HO471.out BK491.out (by decide)) (fun _ hk => hk.2) (.string t483)) (fun _ hk => hk.2) (.int .i64 t484)) (fun _ hk => hk.2) (.bool t485)) (fun _ hk => hk.2) (.string t486)) (fun _ hk => hk.2) (.slice Ao42 t487.length co42)) (fun _ h_ => h_.1))) hb); have n1_ := Aside0.mk (Kd.R_below (by (with_reducible repeat (first | apply Kd.R_alloc | apply Kd.R_drewN | apply Kd.R_drew)); exact (Kd.R_mono (Kd.R_far (p := ⟨gb491, 4, none⟩) (Kd.R_far (p := ⟨gb491, 3, none⟩) (Kd.R_far (p := ⟨gb491, 2, none⟩) (Kd.R_far (p := ⟨gb491, 1, none⟩) (Kd.R_far (p := ⟨gb491, 0, none⟩) (Kd.R_types HO480.out BK491.out (by decide)) (fun _ hk => hk.2) (.string t483)) (fun _ hk => hk.2) (.int .i64 t484)) (fun _ hk => hk.2) (.bool t485)) (fun _ hk => hk.2) (.string t486)) (fun _ hk => hk.2) (.slice Ao42 t487.length co42)) (fun _ h_ => h_.1))) hb); have n2_ := Aside0.mk (Kd.R_below (by (with_reducible repeat (first | apply Kd.R_alloc | apply Kd.R_drewN | apply Kd.R_drew)); exact (Kd.R_mono (Kd.R_far (p := ⟨gb491, 4, none⟩) (Kd.R_far (p := ⟨gb491, 3, none⟩) (Kd.R_far (p := ⟨gb491, 2, none⟩) (Kd.R_far (p := ⟨gb491, 1, none⟩) (Kd.R_far (p := ⟨gb491, 0, none⟩) (Kd.R_types HO489.out BK491.out (by decide)) (fun _ hk => hk.2) (.string t483)) (fun _ hk => hk.2) (.int .i64 t484)) (fun _ hk => hk.2) (.bool t485)) (fun _ hk => hk.2) (.string t486)) (fun _ hk => hk.2) (.slice Ao42 t487.length co42)) (fun _ h_ => h_.1))) hb); have n3_ := Aside0.mk (blk_below (g := gb458) (o := .cells #[.string a0_0, .int .i64 a0_1, .bool a0_2, .string a0_3, .slice A0_4 l0_4.length c0_4] 24 (0, 0)) (by (with_reducible repeat (first | refine blk_drewN ?_ _ | refine blk_drew ?_ | refine blk_alloc ?_ _)); refine blk_far ?_ NB458_491.out _; (with_reducible repeat (first | refine blk_drewN ?_ _ | refine blk_drew ?_ | refine blk_alloc ?_ _)); refine blk_far ?_ NB458_491.out _; (with_reducible repeat (first | refine blk_drewN ?_ _ | refine blk_drew ?_ | refine blk_alloc ?_ _)); refine blk_far ?_ NB458_491.out _; (with_reducible repeat (first | refine blk_drewN ?_ _ | refine blk_drew ?_ | refine blk_alloc ?_ _)); refine blk_far ?_ NB458_491.out _; (with_reducible repeat (first | refine blk_drewN ?_ _ | refine blk_drew ?_ | refine blk_alloc ?_ _)); refine blk_far ?_ NB458_491.out _; (with_reducible repeat (first | refine blk_drewN ?_ _ | refine blk_drew ?_ | refine blk_alloc ?_ _)); exact BK458.out) hb); have n4_ := Aside0.mk (blk_below (g := gb459) (o := .cells #[.string a1_0, .int .i64 a1_1, .bool a1_2, .string a1_3, .slice A1_4 l1_4.length c1_4] 24 (0, 0)) (by (with_reducible repeat (first | refine blk_drewN ?_ _ | refine blk_drew ?_ | refine blk_alloc ?_ _)); refine blk_far ?_ NB459_491.out _; (with_reducible repeat (first | refine blk_drewN ?_ _ | refine blk_drew ?_ | refine blk_alloc ?_ _)); refine blk_far ?_ NB459_491.out _; (with_reducible repeat (first | refine blk_drewN ?_ _ | refine blk_drew ?_ | refine blk_alloc ?_ _)); refine blk_far ?_ NB459_491.out _; (with_reducible repeat (first | refine blk_drewN ?_ _ | refine blk_drew ?_ | refine blk_alloc ?_ _)); refine blk_far ?_ NB459_491.out _; (with_reducible repeat (first | refine blk_drewN ?_ _ | refine blk_drew ?_ | refine blk_alloc ?_ _)); refine blk_far ?_ NB459_491.out _; (with_reducible repeat (first | refine blk_drewN ?_ _ | refine blk_drew ?_ | refine blk_alloc ?_ _)); exact BK459.out) hb); have n5_ := Aside0.mk (blk_below (g := gb473) (o := .cells #[.string t465, .int .i64 t466, .bool t467, .string t468, .slice Ao27 t469.length co27] 24 (0, 0)) (by (with_reducible repeat (first | refine blk_drewN ?_ _ | refine blk_drew ?_ | refine blk_alloc ?_ _)); refine blk_far ?_ NB473_491.out _; (with_reducible repeat (first | refine blk_drewN ?_ _ | refine blk_drew ?_ | refine blk_alloc ?_ _)); refine blk_far ?_ NB473_491.out _; (with_reducible repeat (first | refine blk_drewN ?_ _ | refine blk_drew ?_ | refine blk_alloc ?_ _)); refine blk_far ?_ NB473_491.out _; (with_reducible repeat (first | refine blk_drewN ?_ _ | refine blk_drew ?_ | refine blk_alloc ?_ _)); refine blk_far ?_ NB473_491.out _; (with_reducible repeat (first | refine blk_drewN ?_ _ | refine blk_drew ?_ | refine blk_alloc ?_ _)); refine blk_far ?_ NB473_491.out _; (with_reducible repeat (first | refine blk_drewN ?_ _ | refine blk_drew ?_ | refine blk_alloc ?_ _)); exact BK473.out) hb); have n6_ := Aside0.mk (blk_below (g := gb482) (o := .cells #[.string t474, .int .i64 t475, .bool t476, .string t477, .slice Ao34 t478.length co34] 24 (0, 0)) (by (with_reducible repeat (first | refine blk_drewN ?_ _ | refine blk_drew ?_ | refine blk_alloc ?_ _)); refine blk_far ?_ NB482_491.out _; (with_reducible repeat (first | refine blk_drewN ?_ _ | refine blk_drew ?_ | refine blk_alloc ?_ _)); refine blk_far ?_ NB482_491.out _; (with_reducible repeat (first | refine blk_drewN ?_ _ | refine blk_drew ?_ | refine blk_alloc ?_ _)); refine blk_far ?_ NB482_491.out _; (with_reducible repeat (first | refine blk_drewN ?_ _ | refine blk_drew ?_ | refine blk_alloc ?_ _)); refine blk_far ?_ NB482_491.out _; (with_reducible repeat (first | refine blk_drewN ?_ _ | refine blk_drew ?_ | refine blk_alloc ?_ _)); refine blk_far ?_ NB482_491.out _; (with_reducible repeat (first | refine blk_drewN ?_ _ | refine blk_drew ?_ | refine blk_alloc ?_ _)); exact BK482.out) hb); have n7_ := Aside0.mk (blk_below (g := gb491) (o := .cells #[.string t483, .int .i64 t484, .bool t485, .string t486, .slice Ao42 t487.length co42] 24 (0, 0)) (by (with_reducible repeat (first | refine blk_drewN ?_ _ | refine blk_drew ?_ | refine blk_alloc ?_ _)); refine blk_put (cs := #[.string t483, .int .i64 t484, .bool t485, .string t486, .slice none 0 0]) ?_ 4 _ rfl; (with_reducible repeat (first | refine blk_drewN ?_ _ | refine blk_drew ?_ | refine blk_alloc ?_ _)); refine blk_put (cs := #[.string t483, .int .i64 t484, .bool t485, .string (⟨#[]⟩ : ByteArray), .slice none 0 0]) ?_ 3 _ rfl; (with_reducible repeat (first | refine blk_drewN ?_ _ | refine blk_drew ?_ | refine blk_alloc ?_ _)); refine blk_put (cs := #[.string t483, .int .i64 t484, .bool false, .string (⟨#[]⟩ : ByteArray), .slice none 0 0]) ?_ 2 _ rfl; (with_reducible repeat (first | refine blk_drewN ?_ _ | refine blk_drew ?_ | refine blk_alloc ?_ _)); refine blk_put (cs := #[.string t483, .int .i64 0, .bool false, .string (⟨#[]⟩ : ByteArray), .slice none 0 0]) ?_ 1 _ rfl; (with_reducible repeat (first | refine blk_drewN ?_ _ | refine blk_drew ?_ | refine blk_alloc ?_ _)); refine blk_put (cs := #[.string (⟨#[]⟩ : ByteArray), .int .i64 0, .bool false, .string (⟨#[]⟩ : ByteArray), .slice none 0 0]) ?_ 0 _ rfl; (with_reducible repeat (first | refine blk_drewN ?_ _ | refine blk_drew ?_ | refine blk_alloc ?_ _)); exact BK491.out) hb); have n8_ := Aside0.mk (below_step (by repeat (first | (with_reducible first | exact HB.out | apply below_alloc | apply pw_below_drewN | apply below_drew1 | refine below_set ?_ GE458.out | refine below_set ?_ GE459.out | refine below_set ?_ GE473.out | refine below_set ?_ GE482.out | refine below_set ?_ GE491.out) | exact HB.out)) hb); clear HO471; clear HO480; clear HO489; clear BK458; clear BK459; clear BK473; clear BK482; clear BK491; clear HB; have HO471 := n0_; have HO480 := n1_; have HO489 := n2_; have BK458 := n3_; have BK459 := n4_; have BK473 := n5_; have BK482 := n6_; have BK491 := n7_; have HB := n8_; clear n0_ n1_ n2_ n3_ n4_ n5_ n6_ n7_ n8_; (try clear hb); (try clear hb2); (try clear hk); (try clear hi); have hnb77 := NB482_459.out; have hnc77 := NB459_482.out; have hnb78 := NB482_491.out; have hnc78 := NB491_482.out; have hcz79_0 : w76.cell? ⟨gb482, 0, none⟩ = some (.string t474) := (blk_cell BK482.out 0).trans rfl; have hcz79_1 : w76.cell? ⟨gb482, 1, none⟩ = some (.int .i64 t475) := (blk_cell BK482.out 1).trans rfl; have hcz79_2 : w76.cell? ⟨gb482, 2, none⟩ = some (.bool t476) := (blk_cell BK482.out 2).trans rfl; have hcz79_3 : w76.cell? ⟨gb482, 3, none⟩ = some (.string t477) := (blk_cell BK482.out 3).trans rfl; have hcz79_4 : w76.cell? ⟨gb482, 4, none⟩ = some (.slice Ao34 t478.length co34) := (blk_cell BK482.out 4).trans rfl; have hfz79_0 := blk_frozen BK482.out 0; have hfz79_1 := blk_frozen BK482.out 1; have hfz79_2 := blk_frozen BK482.out 2; have hfz79_3 := blk_frozen BK482.out 3; have hfz79_4 := blk_frozen BK482.out 4; have hcz80_0 : w76.cell? ⟨gb458, 0, none⟩ = some (.string a0_0) := (blk_cell BK458.out 0).trans rfl; have hcz80_1 : w76.cell? ⟨gb458, 1, none⟩ = some (.int .i64 a0_1) := (blk_cell BK458.out 1).trans rfl; have hcz80_2 : w76.cell? ⟨gb458, 2, none⟩ = some (.bool a0_2) := (blk_cell BK458.out 2).trans rfl; have hcz80_3 : w76.cell? ⟨gb458, 3, none⟩ = some (.string a0_3) := (blk_cell BK458.out 3).trans rfl; have hcz80_4 : w76.cell? ⟨gb458, 4, none⟩ = some (.slice A0_4 l0_4.length c0_4) := (blk_cell BK458.out 4).trans rfl; have hfz80_0 := blk_frozen BK458.out 0; have hfz80_1 := blk_frozen BK458.out 1; have hfz80_2 := blk_frozen BK458.out 2; have hfz80_3 := blk_frozen BK458.out 3; have hfz80_4 := blk_frozen BK458.out 4) | (go_at_call 15; (with_reducible refine (cofferref13_Same.calls kj6 t474 t475 t476 t477 _ _ t478 a0_0 a0_1 a0_2 a0_3 _ _ l0_4 false _ ?side1 ?side2 ?side3 ?side4 A45.out).mono ?_); (case side1 => repeat (first | exact (Kd.R_reads' HO480.out).2.2 | (with_reducible refine Kd.C_alloc ?_ _) | (with_reducible refine Kd.C_drewN ?_ _) | (with_reducible refine Kd.C_drew ?_))); (case side2 => exact (Kd.R_reads' HO480.out).2.1); (case side3 => repeat (first | exact (Kd.C_below HR0_4.out HB.out) | (with_reducible refine Kd.C_alloc ?_ _) | (with_reducible refine Kd.C_drewN ?_ _) | (with_reducible refine Kd.C_drew ?_))); (case side4 => exact HC0_4.out); rintro e w81 ⟨rfl, hb⟩; have n0_ := Aside0.mk (Kd.R_below (by (with_reducible repeat (first | apply Kd.R_alloc | apply Kd.R_drewN | apply Kd.R_drew)); exact HO471.out) hb); have n1_ := Aside0.mk (Kd.R_below (by (with_reducible repeat (first | apply Kd.R_alloc | apply Kd.R_drewN | apply Kd.R_drew)); exact HO480.out) hb); have n2_ := Aside0.mk (Kd.R_below (by (with_reducible repeat (first | apply Kd.R_alloc | apply Kd.R_drewN | apply Kd.R_drew)); exact HO489.out) hb); have n3_ := Aside0.mk (blk_below (g := gb458) (o := .cells #[.string a0_0, .int .i64 a0_1, .bool a0_2, .string a0_3, .slice A0_4 l0_4.length c0_4] 24 (0, 0)) (by (with_reducible repeat (first | refine blk_drewN ?_ _ | refine blk_drew ?_ | refine blk_alloc ?_ _)); exact BK458.out) hb); have n4_ := Aside0.mk (blk_below (g := gb459) (o := .cells #[.string a1_0, .int .i64 a1_1, .bool a1_2, .string a1_3, .slice A1_4 l1_4.length c1_4] 24 (0, 0)) (by (with_reducible repeat (first | refine blk_drewN ?_ _ | refine blk_drew ?_ | refine blk_alloc ?_ _)); exact BK459.out) hb); have n5_ := Aside0.mk (blk_below (g := gb473) (o := .cells #[.string t465, .int .i64 t466, .bool t467, .string t468, .slice Ao27 t469.length co27] 24 (0, 0)) (by (with_reducible repeat (first | refine blk_drewN ?_ _ | refine blk_drew ?_ | refine blk_alloc ?_ _)); exact BK473.out) hb); have n6_ := Aside0.mk (blk_below (g := gb482) (o := .cells #[.string t474, .int .i64 t475, .bool t476, .string t477, .slice Ao34 t478.length co34] 24 (0, 0)) (by (with_reducible repeat (first | refine blk_drewN ?_ _ | refine blk_drew ?_ | refine blk_alloc ?_ _)); exact BK482.out) hb); have n7_ := Aside0.mk (blk_below (g := gb491) (o := .cells #[.string t483, .int .i64 t484, .bool t485, .string t486, .slice Ao42 t487.length co42] 24 (0, 0)) (by (with_reducible repeat (first | refine blk_drewN ?_ _ | refine blk_drew ?_ | refine blk_alloc ?_ _)); exact BK491.out) hb); have n8_ := Aside0.mk (below_step (by repeat (first | (with_reducible first | exact HB.out | apply below_alloc | apply pw_below_drewN | apply below_drew1 | refine below_set ?_ GE458.out | refine below_set ?_ GE459.out | refine below_set ?_ GE473.out | refine below_set ?_ GE482.out | refine below_set ?_ GE491.out) | exact HB.out)) hb); clear HO471; clear HO480; clear HO489; clear BK458; clear BK459; clear BK473; clear BK482; clear BK491; clear HB; have HO471 := n0_; have HO480 := n1_; have HO489 := n2_; have BK458 := n3_; have BK459 := n4_; have BK473 := n5_; have BK482 := n6_; have BK491 := n7_; have HB := n8_; clear n0_ n1_ n2_ n3_ n4_ n5_ n6_ n7_ n8_; (try clear hb); (try clear hb2); (try clear hk); (try clear hi)))
        go_meet
        case rel => exact ⟨_, (true), (by first | rfl | (simp; done) | (simp [Go.Proofs.Ytdhkcklgnnilfaa.Z.bne_nil, Go.Proofs.Ytdhkcklgnnilfaa.Z.beq_nil]; done) | (simp [*]; done)), H', ⟨by have := HJ6.out; first | omega | exact Nat.le_refl _⟩, ⟨by (with_reducible repeat (first | apply Kd.R_alloc | apply Kd.R_drewN | apply Kd.R_drew)); exact Kd.R_mono HO471.out (fun _ hk => ⟨hk.1.2, hk.2⟩)⟩, ⟨by (with_reducible repeat (first | apply Kd.R_alloc | apply Kd.R_drewN | apply Kd.R_drew)); exact Kd.R_mono HO480.out (fun _ hk => ⟨hk.1.2, hk.2⟩)⟩, ⟨by (with_reducible repeat (first | apply Kd.R_alloc | apply Kd.R_drewN | apply Kd.R_drew)); exact Kd.R_mono HO489.out (fun _ hk => ⟨hk.1.2, hk.2⟩)⟩, ⟨by (with_reducible repeat (first | refine blk_drewN ?_ _ | refine blk_drew ?_ | refine blk_alloc ?_ _)); exact BK458.out⟩, ⟨by (with_reducible repeat (first | refine blk_drewN ?_ _ | refine blk_drew ?_ | refine blk_alloc ?_ _)); exact BK459.out⟩, ⟨by (with_reducible repeat (first | refine blk_drewN ?_ _ | refine blk_drew ?_ | refine blk_alloc ?_ _)); exact BK473.out⟩, ⟨by (with_reducible repeat (first | refine blk_drewN ?_ _ | refine blk_drew ?_ | refine blk_alloc ?_ _)); exact BK482.out⟩, ⟨by (with_reducible repeat (first | refine blk_drewN ?_ _ | refine blk_drew ?_ | refine blk_alloc ?_ _)); exact BK491.out⟩, ⟨by repeat (first | (with_reducible first | exact HB.out | apply below_alloc | apply pw_below_drewN | apply below_drew1 | refine below_set ?_ GE458.out | refine below_set ?_ GE459.out | refine below_set ?_ GE473.out | refine below_set ?_ GE482.out | refine below_set ?_ GE491.out) | exact HB.out)⟩⟩
      ·replace c44 := Bool.eq_false_iff.mpr c44
       subst c44
       have H1 : (cofferlaw13_VersionApart.j1 kj6 t460 true a0_0 a0_1 a0_2 a0_3 l0_4 a1_0 a1_1 a1_2 a1_3 l1_4 t465 t466 t467 t468 t469 t474 t475 t476 t477 t478 t483 t484 t485 t486 t487) = some r := by rw [if_neg (show ¬ (false = true) by decide)] at H; exact H
       clear H
       have H := H1
       clear H1
       have H' := Aside0.mk H
       clear H
       have hnb82 := NB473_458.out
       have hnc82 := NB458_473.out
       have hnb83 := NB473_459.out
       have hnc83 := NB459_473.out
       have hnb84 := NB473_482.out
       have hnc84 := NB482_473.out
       have hnb85 := NB473_491.out
       have hnc85 := NB491_473.out
       have hcz86_0 : w36.cell? ⟨gb473, 0, none⟩ = some (.string t465) := (blk_cell BK473.out 0).trans rfl
       have hcz86_1 : w36.cell? ⟨gb473, 1, none⟩ = some (.int .i64 t466) := (blk_cell BK473.out 1).trans rfl
       have hcz86_2 : w36.cell? ⟨gb473, 2, none⟩ = some (.bool t467) := (blk_cell BK473.out 2).trans rfl
       have hcz86_3 : w36.cell? ⟨gb473, 3, none⟩ = some (.string t468) := (blk_cell BK473.out 3).trans rfl
       have hcz86_4 : w36.cell? ⟨gb473, 4, none⟩ = some (.slice Ao27 t469.length co27) := (blk_cell BK473.out 4).trans rfl
       have hfz86_0 := blk_frozen BK473.out 0
       have hfz86_1 := blk_frozen BK473.out 1
       have hfz86_2 := blk_frozen BK473.out 2
       have hfz86_3 := blk_frozen BK473.out 3
       have hfz86_4 := blk_frozen BK473.out 4
       have hnb87 := NB458_459.out
       have hnc87 := NB459_458.out
       have hnb88 := NB458_482.out
       have hnc88 := NB482_458.out
       have hnb89 := NB458_491.out
       have hnc89 := NB491_458.out
       have hcz90_0 : w36.cell? ⟨gb458, 0, none⟩ = some (.string a0_0) := (blk_cell BK458.out 0).trans rfl
       have hcz90_1 : w36.cell? ⟨gb458, 1, none⟩ = some (.int .i64 a0_1) := (blk_cell BK458.out 1).trans rfl
       have hcz90_2 : w36.cell? ⟨gb458, 2, none⟩ = some (.bool a0_2) := (blk_cell BK458.out 2).trans rfl
       have hcz90_3 : w36.cell? ⟨gb458, 3, none⟩ = some (.string a0_3) := (blk_cell BK458.out 3).trans rfl
       have hcz90_4 : w36.cell? ⟨gb458, 4, none⟩ = some (.slice A0_4 l0_4.length c0_4) := (blk_cell BK458.out 4).trans rfl
       have hfz90_0 := blk_frozen BK458.out 0
       have hfz90_1 := blk_frozen BK458.out 1
       have hfz90_2 := blk_frozen BK458.out 2
       have hfz90_3 := blk_frozen BK458.out 3
       have hfz90_4 := blk_frozen BK458.out 4
       go_wp2_with (first | ((with_reducible refine gate_callee (f := 15) rfl ?_); refine goesL_ (some 57) rfl rfl Try.func15 (by kernel_rfl) rfl #[.agg #[.string t465, .int .i64 t466, .bool t467, .string t468, .slice Ao27 t469.length co27], .agg #[.string a0_0, .int .i64 a0_1, .bool a0_2, .string a0_3, .slice A0_4 l0_4.length c0_4]] rfl (by (try simp only [List.map_toArray, List.map_cons, List.map_nil]); first | done | rfl | (simp only [List.length_drop, List.length_take]; rfl)) ?_; (with_reducible refine (cofferref13_Same.calls kj6 t465 t466 t467 t468 _ _ t469 a0_0 a0_1 a0_2 a0_3 _ _ l0_4 false _ ?side1 ?side2 ?side3 ?side4 A43.out).mono ?_); (case side1 => refine (Kd.R_reads' (e := 31) (base := w.heap.size) (ok := fun k_ => ((True ∧ some k_ ≠ (.slice Ao34 t478.length co34 : Value).ownBlock) ∧ some k_ ≠ (.slice Ao42 t487.length co42 : Value).ownBlock)) (n := t469.length) (c := co27) ?_).2.2; exact (by (with_reducible repeat (first | apply Kd.R_alloc | apply Kd.R_drewN | apply Kd.R_drew)); exact (Kd.R_mono (Kd.R_far (p := ⟨gb491, 4, none⟩) (Kd.R_far (p := ⟨gb491, 3, none⟩) (Kd.R_far (p := ⟨gb491, 2, none⟩) (Kd.R_far (p := ⟨gb491, 1, none⟩) (Kd.R_far (p := ⟨gb491, 0, none⟩) (Kd.R_types HO471.out BK491.out (by decide)) (fun _ hk => hk.2) (.string t483)) (fun _ hk => hk.2) (.int .i64 t484)) (fun _ hk => hk.2) (.bool t485)) (fun _ hk => hk.2) (.string t486)) (fun _ hk => hk.2) (.slice Ao42 t487.length co42)) (fun _ h_ => h_.1)))); (case side2 => exact (Kd.R_reads' HO471.out).2.1); (case side3 => exact Kd.C_below HR0_4.out (by repeat (first | (with_reducible first | exact HB.out | apply below_alloc | apply pw_below_drewN | apply below_drew1 | refine below_set ?_ GE458.out | refine below_set ?_ GE459.out | refine below_set ?_ GE473.out | refine below_set ?_ GE482.out | refine below_set ?_ GE491.out) | exact HB.out))); (case side4 => exact HC0_4.out); rintro e w91 ⟨rfl, hb⟩; refine ⟨_, rfl, ?_⟩; have n0_ := Aside0.mk (Kd.R_below (by (with_reducible repeat (first | apply Kd.R_alloc | apply Kd.R_drewN | apply Kd.R_drew)); exact (Kd.R_mono (Kd.R_far (p := ⟨gb491, 4, none⟩) (Kd.R_far (p := ⟨gb491, 3, none⟩) (Kd.R_far (p := ⟨gb491, 2, none⟩) (Kd.R_far (p := ⟨gb491, 1, none⟩) (Kd.R_far (p := ⟨gb491, 0, none⟩) (Kd.R_types HO471.out BK491.out (by decide)) (fun _ hk => hk.2) (.string t483)) (fun _ hk => hk.2) (.int .i64 t484)) (fun _ hk => hk.2) (.bool t485)) (fun _ hk => hk.2) (.string t486)) (fun _ hk => hk.2) (.slice Ao42 t487.length co42)) (fun _ h_ => h_.1))) hb); have n1_ := Aside0.mk (Kd.R_below (by (with_reducible repeat (first | apply Kd.R_alloc | apply Kd.R_drewN | apply Kd.R_drew)); exact (Kd.R_mono (Kd.R_far (p := ⟨gb491, 4, none⟩) (Kd.R_far (p := ⟨gb491, 3, none⟩) (Kd.R_far (p := ⟨gb491, 2, none⟩) (Kd.R_far (p := ⟨gb491, 1, none⟩) (Kd.R_far (p := ⟨gb491, 0, none⟩) (Kd.R_types HO480.out BK491.out (by decide)) (fun _ hk => hk.2) (.string t483)) (fun _ hk => hk.2) (.int .i64 t484)) (fun _ hk => hk.2) (.bool t485)) (fun _ hk => hk.2) (.string t486)) (fun _ hk => hk.2) (.slice Ao42 t487.length co42)) (fun _ h_ => h_.1))) hb); have n2_ := Aside0.mk (Kd.R_below (by (with_reducible repeat (first | apply Kd.R_alloc | apply Kd.R_drewN | apply Kd.R_drew)); exact (Kd.R_mono (Kd.R_far (p := ⟨gb491, 4, none⟩) (Kd.R_far (p := ⟨gb491, 3, none⟩) (Kd.R_far (p := ⟨gb491, 2, none⟩) (Kd.R_far (p := ⟨gb491, 1, none⟩) (Kd.R_far (p := ⟨gb491, 0, none⟩) (Kd.R_types HO489.out BK491.out (by decide)) (fun _ hk => hk.2) (.string t483)) (fun _ hk => hk.2) (.int .i64 t484)) (fun _ hk => hk.2) (.bool t485)) (fun _ hk => hk.2) (.string t486)) (fun _ hk => hk.2) (.slice Ao42 t487.length co42)) (fun _ h_ => h_.1))) hb); have n3_ := Aside0.mk (blk_below (g := gb458) (o := .cells #[.string a0_0, .int .i64 a0_1, .bool a0_2, .string a0_3, .slice A0_4 l0_4.length c0_4] 24 (0, 0)) (by (with_reducible repeat (first | refine blk_drewN ?_ _ | refine blk_drew ?_ | refine blk_alloc ?_ _)); refine blk_far ?_ NB458_491.out _; (with_reducible repeat (first | refine blk_drewN ?_ _ | refine blk_drew ?_ | refine blk_alloc ?_ _)); refine blk_far ?_ NB458_491.out _; (with_reducible repeat (first | refine blk_drewN ?_ _ | refine blk_drew ?_ | refine blk_alloc ?_ _)); refine blk_far ?_ NB458_491.out _; (with_reducible repeat (first | refine blk_drewN ?_ _ | refine blk_drew ?_ | refine blk_alloc ?_ _)); refine blk_far ?_ NB458_491.out _; (with_reducible repeat (first | refine blk_drewN ?_ _ | refine blk_drew ?_ | refine blk_alloc ?_ _)); refine blk_far ?_ NB458_491.out _; (with_reducible repeat (first | refine blk_drewN ?_ _ | refine blk_drew ?_ | refine blk_alloc ?_ _)); exact BK458.out) hb); have n4_ := Aside0.mk (blk_below (g := gb459) (o := .cells #[.string a1_0, .int .i64 a1_1, .bool a1_2, .string a1_3, .slice A1_4 l1_4.length c1_4] 24 (0, 0)) (by (with_reducible repeat (first | refine blk_drewN ?_ _ | refine blk_drew ?_ | refine blk_alloc ?_ _)); refine blk_far ?_ NB459_491.out _; (with_reducible repeat (first | refine blk_drewN ?_ _ | refine blk_drew ?_ | refine blk_alloc ?_ _)); refine blk_far ?_ NB459_491.out _; (with_reducible repeat (first | refine blk_drewN ?_ _ | refine blk_drew ?_ | refine blk_alloc ?_ _)); refine blk_far ?_ NB459_491.out _; (with_reducible repeat (first | refine blk_drewN ?_ _ | refine blk_drew ?_ | refine blk_alloc ?_ _)); refine blk_far ?_ NB459_491.out _; (with_reducible repeat (first | refine blk_drewN ?_ _ | refine blk_drew ?_ | refine blk_alloc ?_ _)); refine blk_far ?_ NB459_491.out _; (with_reducible repeat (first | refine blk_drewN ?_ _ | refine blk_drew ?_ | refine blk_alloc ?_ _)); exact BK459.out) hb); have n5_ := Aside0.mk (blk_below (g := gb473) (o := .cells #[.string t465, .int .i64 t466, .bool t467, .string t468, .slice Ao27 t469.length co27] 24 (0, 0)) (by (with_reducible repeat (first | refine blk_drewN ?_ _ | refine blk_drew ?_ | refine blk_alloc ?_ _)); refine blk_far ?_ NB473_491.out _; (with_reducible repeat (first | refine blk_drewN ?_ _ | refine blk_drew ?_ | refine blk_alloc ?_ _)); refine blk_far ?_ NB473_491.out _; (with_reducible repeat (first | refine blk_drewN ?_ _ | refine blk_drew ?_ | refine blk_alloc ?_ _)); refine blk_far ?_ NB473_491.out _; (with_reducible repeat (first | refine blk_drewN ?_ _ | refine blk_drew ?_ | refine blk_alloc ?_ _)); refine blk_far ?_ NB473_491.out _; (with_reducible repeat (first | refine blk_drewN ?_ _ | refine blk_drew ?_ | refine blk_alloc ?_ _)); refine blk_far ?_ NB473_491.out _; (with_reducible repeat (first | refine blk_drewN ?_ _ | refine blk_drew ?_ | refine blk_alloc ?_ _)); exact BK473.out) hb); have n6_ := Aside0.mk (blk_below (g := gb482) (o := .cells #[.string t474, .int .i64 t475, .bool t476, .string t477, .slice Ao34 t478.length co34] 24 (0, 0)) (by (with_reducible repeat (first | refine blk_drewN ?_ _ | refine blk_drew ?_ | refine blk_alloc ?_ _)); refine blk_far ?_ NB482_491.out _; (with_reducible repeat (first | refine blk_drewN ?_ _ | refine blk_drew ?_ | refine blk_alloc ?_ _)); refine blk_far ?_ NB482_491.out _; (with_reducible repeat (first | refine blk_drewN ?_ _ | refine blk_drew ?_ | refine blk_alloc ?_ _)); refine blk_far ?_ NB482_491.out _; (with_reducible repeat (first | refine blk_drewN ?_ _ | refine blk_drew ?_ | refine blk_alloc ?_ _)); refine blk_far ?_ NB482_491.out _; (with_reducible repeat (first | refine blk_drewN ?_ _ | refine blk_drew ?_ | refine blk_alloc ?_ _)); refine blk_far ?_ NB482_491.out _; (with_reducible repeat (first | refine blk_drewN ?_ _ | refine blk_drew ?_ | refine blk_alloc ?_ _)); exact BK482.out) hb); have n7_ := Aside0.mk (blk_below (g := gb491) (o := .cells #[.string t483, .int .i64 t484, .bool t485, .string t486, .slice Ao42 t487.length co42] 24 (0, 0)) (by (with_reducible repeat (first | refine blk_drewN ?_ _ | refine blk_drew ?_ | refine blk_alloc ?_ _)); refine blk_put (cs := #[.string t483, .int .i64 t484, .bool t485, .string t486, .slice none 0 0]) ?_ 4 _ rfl; (with_reducible repeat (first | refine blk_drewN ?_ _ | refine blk_drew ?_ | refine blk_alloc ?_ _)); refine blk_put (cs := #[.string t483, .int .i64 t484, .bool t485, .string (⟨#[]⟩ : ByteArray), .slice none 0 0]) ?_ 3 _ rfl; (with_reducible repeat (first | refine blk_drewN ?_ _ | refine blk_drew ?_ | refine blk_alloc ?_ _)); refine blk_put (cs := #[.string t483, .int .i64 t484, .bool false, .string (⟨#[]⟩ : ByteArray), .slice none 0 0]) ?_ 2 _ rfl; (with_reducible repeat (first | refine blk_drewN ?_ _ | refine blk_drew ?_ | refine blk_alloc ?_ _)); refine blk_put (cs := #[.string t483, .int .i64 0, .bool false, .string (⟨#[]⟩ : ByteArray), .slice none 0 0]) ?_ 1 _ rfl; (with_reducible repeat (first | refine blk_drewN ?_ _ | refine blk_drew ?_ | refine blk_alloc ?_ _)); refine blk_put (cs := #[.string (⟨#[]⟩ : ByteArray), .int .i64 0, .bool false, .string (⟨#[]⟩ : ByteArray), .slice none 0 0]) ?_ 0 _ rfl; (with_reducible repeat (first | refine blk_drewN ?_ _ | refine blk_drew ?_ | refine blk_alloc ?_ _)); exact BK491.out) hb); have n8_ := Aside0.mk (below_step (by repeat (first | (with_reducible first | exact HB.out | apply below_alloc | apply pw_below_drewN | apply below_drew1 | refine below_set ?_ GE458.out | refine below_set ?_ GE459.out | refine below_set ?_ GE473.out | refine below_set ?_ GE482.out | refine below_set ?_ GE491.out) | exact HB.out)) hb); clear HO471; clear HO480; clear HO489; clear BK458; clear BK459; clear BK473; clear BK482; clear BK491; clear HB; have HO471 := n0_; have HO480 := n1_; have HO489 := n2_; have BK458 := n3_; have BK459 := n4_; have BK473 := n5_; have BK482 := n6_; have BK491 := n7_; have HB := n8_; clear n0_ n1_ n2_ n3_ n4_ n5_ n6_ n7_ n8_; (try clear hb); (try clear hb2); (try clear hk); (try clear hi)))
       go_meet
       case rel => exact ⟨_, (true), (by first | rfl | (simp; done) | (simp [Go.Proofs.Ytdhkcklgnnilfaa.Z.bne_nil, Go.Proofs.Ytdhkcklgnnilfaa.Z.beq_nil]; done) | (simp [*]; done)), H', ⟨by have := HJ6.out; first | omega | exact Nat.le_refl _⟩, ⟨by (with_reducible repeat (first | apply Kd.R_alloc | apply Kd.R_drewN | apply Kd.R_drew)); exact Kd.R_mono HO471.out (fun _ hk => ⟨hk.1.2, hk.2⟩)⟩, ⟨by (with_reducible repeat (first | apply Kd.R_alloc | apply Kd.R_drewN | apply Kd.R_drew)); exact Kd.R_mono HO480.out (fun _ hk => ⟨hk.1.2, hk.2⟩)⟩, ⟨by (with_reducible repeat (first | apply Kd.R_alloc | apply Kd.R_drewN | apply Kd.R_drew)); exact Kd.R_mono HO489.out (fun _ hk => ⟨hk.1.2, hk.2⟩)⟩, ⟨by (with_reducible repeat (first | refine blk_drewN ?_ _ | refine blk_drew ?_ | refine blk_alloc ?_ _)); exact BK458.out⟩, ⟨by (with_reducible repeat (first | refine blk_drewN ?_ _ | refine blk_drew ?_ | refine blk_alloc ?_ _)); exact BK459.out⟩, ⟨by (with_reducible repeat (first | refine blk_drewN ?_ _ | refine blk_drew ?_ | refine blk_alloc ?_ _)); exact BK473.out⟩, ⟨by (with_reducible repeat (first | refine blk_drewN ?_ _ | refine blk_drew ?_ | refine blk_alloc ?_ _)); exact BK482.out⟩, ⟨by (with_reducible repeat (first | refine blk_drewN ?_ _ | refine blk_drew ?_ | refine blk_alloc ?_ _)); exact BK491.out⟩, ⟨by repeat (first | (with_reducible first | exact HB.out | apply below_alloc | apply pw_below_drewN | apply below_drew1 | refine below_set ?_ GE458.out | refine below_set ?_ GE459.out | refine below_set ?_ GE473.out | refine below_set ?_ GE482.out | refine below_set ?_ GE491.out) | exact HB.out)⟩⟩
     case rest =>
      clear HC21
      try clear c1
      try clear c2
      try clear p2
      try clear c3
      try clear c4
      try clear c5
      try clear c6
      try clear c7
      try clear c8
      try clear c9
      try clear c10
      try clear c12
      try clear c13
      try clear c15
      try clear c16
      try clear c16b0
      try clear c16b1
      try clear c17
      try clear c24
      try clear c25
      try clear c30
      try clear c31
      try clear c32
      try clear c37
      try clear c38
      try clear c39
      try clear c40
      try clear c44
      try clear c46
      try clear c48
      try clear c49
      try clear c50
      try clear c51
      try clear c53
      try clear c54
      try clear c55
      try clear c58
      try clear c59
      try clear c63
      try clear c67
      try clear c68
      try clear c69
      try clear c70
      try clear c72
      try clear c73
      try clear c74
      try clear c77
      try clear c78
      try clear c82
      try clear c83
      try clear c84
      try clear c85
      try clear c87
      try clear c88
      try clear c89
      try clear hcz11_0
      try clear hcz11_1
      try clear hcz11_2
      try clear hcz11_3
      try clear hcz11_4
      try clear hcz13_0
      try clear hcz13_1
      try clear hcz13_2
      try clear hcz13_3
      try clear hcz13_4
      try clear hcz26_0
      try clear hcz26_1
      try clear hcz26_2
      try clear hcz26_3
      try clear hcz26_4
      try clear hcz33_0
      try clear hcz33_1
      try clear hcz33_2
      try clear hcz33_3
      try clear hcz33_4
      try clear hcz41_0
      try clear hcz41_1
      try clear hcz41_2
      try clear hcz41_3
      try clear hcz41_4
      try clear hcz52_0
      try clear hcz52_1
      try clear hcz52_2
      try clear hcz52_3
      try clear hcz52_4
      try clear hcz56_0
      try clear hcz56_1
      try clear hcz56_2
      try clear hcz56_3
      try clear hcz56_4
      try clear hcz60_0
      try clear hcz60_1
      try clear hcz60_2
      try clear hcz60_3
      try clear hcz60_4
      try clear hcz61_0
      try clear hcz61_1
      try clear hcz61_2
      try clear hcz61_3
      try clear hcz61_4
      try clear hcz64_0
      try clear hcz64_1
      try clear hcz64_2
      try clear hcz64_3
      try clear hcz64_4
      try clear hcz65_0
      try clear hcz65_1
      try clear hcz65_2
      try clear hcz65_3
      try clear hcz65_4
      try clear hcz71_0
      try clear hcz71_1
      try clear hcz71_2
      try clear hcz71_3
      try clear hcz71_4
      try clear hcz75_0
      try clear hcz75_1
      try clear hcz75_2
      try clear hcz75_3
      try clear hcz75_4
      try clear hcz79_0
      try clear hcz79_1
      try clear hcz79_2
      try clear hcz79_3
      try clear hcz79_4
      try clear hcz80_0
      try clear hcz80_1
      try clear hcz80_2
      try clear hcz80_3
      try clear hcz80_4
      try clear hcz86_0
      try clear hcz86_1
      try clear hcz86_2
      try clear hcz86_3
      try clear hcz86_4
      try clear hcz90_0
      try clear hcz90_1
      try clear hcz90_2
      try clear hcz90_3
      try clear hcz90_4
      try clear hfz11_0
      try clear hfz11_1
      try clear hfz11_2
      try clear hfz11_3
      try clear hfz11_4
      try clear hfz13_0
      try clear hfz13_1
      try clear hfz13_2
      try clear hfz13_3
      try clear hfz13_4
      try clear hfz26_0
      try clear hfz26_1
      try clear hfz26_2
      try clear hfz26_3
      try clear hfz26_4
      try clear hfz33_0
      try clear hfz33_1
      try clear hfz33_2
      try clear hfz33_3
      try clear hfz33_4
      try clear hfz41_0
      try clear hfz41_1
      try clear hfz41_2
      try clear hfz41_3
      try clear hfz41_4
      try clear hfz52_0
      try clear hfz52_1
      try clear hfz52_2
      try clear hfz52_3
      try clear hfz52_4
      try clear hfz56_0
      try clear hfz56_1
      try clear hfz56_2
      try clear hfz56_3
      try clear hfz56_4
      try clear hfz60_0
      try clear hfz60_1
      try clear hfz60_2
      try clear hfz60_3
      try clear hfz60_4
      try clear hfz61_0
      try clear hfz61_1
      try clear hfz61_2
      try clear hfz61_3
      try clear hfz61_4
      try clear hfz64_0
      try clear hfz64_1
      try clear hfz64_2
      try clear hfz64_3
      try clear hfz64_4
      try clear hfz65_0
      try clear hfz65_1
      try clear hfz65_2
      try clear hfz65_3
      try clear hfz65_4
      try clear hfz71_0
      try clear hfz71_1
      try clear hfz71_2
      try clear hfz71_3
      try clear hfz71_4
      try clear hfz75_0
      try clear hfz75_1
      try clear hfz75_2
      try clear hfz75_3
      try clear hfz75_4
      try clear hfz79_0
      try clear hfz79_1
      try clear hfz79_2
      try clear hfz79_3
      try clear hfz79_4
      try clear hfz80_0
      try clear hfz80_1
      try clear hfz80_2
      try clear hfz80_3
      try clear hfz80_4
      try clear hfz86_0
      try clear hfz86_1
      try clear hfz86_2
      try clear hfz86_3
      try clear hfz86_4
      try clear hfz90_0
      try clear hfz90_1
      try clear hfz90_2
      try clear hfz90_3
      try clear hfz90_4
      try clear p2
      obtain ⟨kq, x70_20, rfl, HA, HJ20, HO_474004, HO_483004, HO_492004, BK458, BK459, BK473, BK482, BK491, HB⟩ := hcut
      cases kq with
      | zero => exact absurd HA.out (by simp [cofferlaw13_VersionApart.j1])
      | succ kj20 =>
       have H := HA.out
       clear HA
       simp only [cofferlaw13_VersionApart.j1] at H
       by_cases c92 : x70_20 = true
       ·subst c92
        have H1 : (none) = some r := by rw [if_pos rfl] at H; exact H
        clear H
        have H := H1
        clear H1
        exact absurd H (by simp)
       ·replace c92 := Bool.eq_false_iff.mpr c92
        subst c92
        have H1 : (cofferlaw13_VersionApart.l0 kj20 t460 0 a0_0 a0_1 a0_2 a0_3 l0_4 a1_0 a1_1 a1_2 a1_3 l1_4 t465 t466 t467 t468 t469 t474 t475 t476 t477 t478 t483 t484 t485 t486 t487) = some r := by rw [if_neg (show ¬ (false = true) by decide)] at H; exact H
        clear H
        have H := H1
        clear H1
        have H' := Aside0.mk H
        clear H
        go_wp2
        go_loopg [15] kj20 (fun kq v15 w' => ∃ (x15_3 : Int) (x474004_3 : List (S31)) (x483004_3 : List (S31)) (x492004_3 : List (S31)) (u474004 : Value) (u483004 : Value) (u492004 : Value), v15 = .int .i64 x15_3 ∧ Aside0 (cofferlaw13_VersionApart.l0 kq t460 x15_3 a0_0 a0_1 a0_2 a0_3 l0_4 a1_0 a1_1 a1_2 a1_3 l1_4 t465 t466 t467 t468 x474004_3 t474 t475 t476 t477 x483004_3 t483 t484 t485 t486 x492004_3 = some r) ∧ Aside0 (kq ≤ kj20) ∧ Aside0 (Kd.R k31 31 w' w.heap.size (fun k_ => some k_ ≠ (u483004 : Value).ownBlock ∧ some k_ ≠ (u492004 : Value).ownBlock) u474004 x474004_3) ∧ Aside0 (Kd.R k31 31 w' w.heap.size (fun k_ => some k_ ≠ (u474004 : Value).ownBlock ∧ some k_ ≠ (u492004 : Value).ownBlock) u483004 x483004_3) ∧ Aside0 (Kd.R k31 31 w' w.heap.size (fun k_ => some k_ ≠ (u474004 : Value).ownBlock ∧ some k_ ≠ (u483004 : Value).ownBlock) u492004 x492004_3) ∧ Aside0 (w'.heap[gb458]? = some (.cells #[.string a0_0, .int .i64 a0_1, .bool a0_2, .string a0_3, (.slice A0_4 l0_4.length c0_4)] 24 (0, 0))) ∧ Aside0 (w'.heap[gb459]? = some (.cells #[.string a1_0, .int .i64 a1_1, .bool a1_2, .string a1_3, (.slice A1_4 l1_4.length c1_4)] 24 (0, 0))) ∧ Aside0 (w'.heap[gb473]? = some (.cells #[.string t465, .int .i64 t466, .bool t467, .string t468, u474004] 24 (0, 0))) ∧ Aside0 (w'.heap[gb482]? = some (.cells #[.string t474, .int .i64 t475, .bool t476, .string t477, u483004] 24 (0, 0))) ∧ Aside0 (w'.heap[gb491]? = some (.cells #[.string t483, .int .i64 t484, .bool t485, .string t486, u492004] 24 (0, 0))) ∧ Aside0 (Below w.heap.size w w'))
        case atStart => exact ⟨(0), (t469), (t478), (t487), (.slice Ao27 t469.length co27), (.slice Ao34 t478.length co34), (.slice Ao42 t487.length co42), (by first | rfl | (simp; done) | (simp [Go.Proofs.Ytdhkcklgnnilfaa.Z.bne_nil, Go.Proofs.Ytdhkcklgnnilfaa.Z.beq_nil]; done) | (simp [*]; done)), H', ⟨Nat.le_refl _⟩, ⟨by (with_reducible repeat (first | apply Kd.R_alloc | apply Kd.R_drewN | apply Kd.R_drew)); exact HO_474004.out⟩, ⟨by (with_reducible repeat (first | apply Kd.R_alloc | apply Kd.R_drewN | apply Kd.R_drew)); exact HO_483004.out⟩, ⟨by (with_reducible repeat (first | apply Kd.R_alloc | apply Kd.R_drewN | apply Kd.R_drew)); exact HO_492004.out⟩, ⟨by (with_reducible repeat (first | refine blk_drewN ?_ _ | refine blk_drew ?_ | refine blk_alloc ?_ _)); exact BK458.out⟩, ⟨by (with_reducible repeat (first | refine blk_drewN ?_ _ | refine blk_drew ?_ | refine blk_alloc ?_ _)); exact BK459.out⟩, ⟨by (with_reducible repeat (first | refine blk_drewN ?_ _ | refine blk_drew ?_ | refine blk_alloc ?_ _)); exact BK473.out⟩, ⟨by (with_reducible repeat (first | refine blk_drewN ?_ _ | refine blk_drew ?_ | refine blk_alloc ?_ _)); exact BK482.out⟩, ⟨by (with_reducible repeat (first | refine blk_drewN ?_ _ | refine blk_drew ?_ | refine blk_alloc ?_ _)); exact BK491.out⟩, ⟨by repeat (first | (with_reducible first | exact HB.out | apply below_alloc | apply pw_below_drewN | apply below_drew1 | refine below_set ?_ GE458.out | refine below_set ?_ GE459.out | refine below_set ?_ GE473.out | refine below_set ?_ GE482.out | refine below_set ?_ GE491.out) | exact HB.out)⟩⟩
        case round =>
         clear H'
         try clear c1
         try clear c2
         try clear p2
         try clear c3
         try clear c4
         try clear c5
         try clear c6
         try clear c7
         try clear c8
         try clear c9
         try clear c10
         try clear c12
         try clear c13
         try clear c15
         try clear c16
         try clear c16b0
         try clear c16b1
         try clear c17
         try clear c24
         try clear c25
         try clear c30
         try clear c31
         try clear c32
         try clear c37
         try clear c38
         try clear c39
         try clear c40
         try clear c44
         try clear c46
         try clear c48
         try clear c49
         try clear c50
         try clear c51
         try clear c53
         try clear c54
         try clear c55
         try clear c58
         try clear c59
         try clear c63
         try clear c67
         try clear c68
         try clear c69
         try clear c70
         try clear c72
         try clear c73
         try clear c74
         try clear c77
         try clear c78
         try clear c82
         try clear c83
         try clear c84
         try clear c85
         try clear c87
         try clear c88
         try clear c89
         try clear c92
         try clear hcz11_0
         try clear hcz11_1
         try clear hcz11_2
         try clear hcz11_3
         try clear hcz11_4
         try clear hcz13_0
         try clear hcz13_1
         try clear hcz13_2
         try clear hcz13_3
         try clear hcz13_4
         try clear hcz26_0
         try clear hcz26_1
         try clear hcz26_2
         try clear hcz26_3
         try clear hcz26_4
         try clear hcz33_0
         try clear hcz33_1
         try clear hcz33_2
         try clear hcz33_3
         try clear hcz33_4
         try clear hcz41_0
         try clear hcz41_1
         try clear hcz41_2
         try clear hcz41_3
         try clear hcz41_4
         try clear hcz52_0
         try clear hcz52_1
         try clear hcz52_2
         try clear hcz52_3
         try clear hcz52_4
         try clear hcz56_0
         try clear hcz56_1
         try clear hcz56_2
         try clear hcz56_3
         try clear hcz56_4
         try clear hcz60_0
         try clear hcz60_1
         try clear hcz60_2
         try clear hcz60_3
         try clear hcz60_4
         try clear hcz61_0
         try clear hcz61_1
         try clear hcz61_2
         try clear hcz61_3
         try clear hcz61_4
         try clear hcz64_0
         try clear hcz64_1
         try clear hcz64_2
         try clear hcz64_3
         try clear hcz64_4
         try clear hcz65_0
         try clear hcz65_1
         try clear hcz65_2
         try clear hcz65_3
         try clear hcz65_4
         try clear hcz71_0
         try clear hcz71_1
         try clear hcz71_2
         try clear hcz71_3
         try clear hcz71_4
         try clear hcz75_0
         try clear hcz75_1
         try clear hcz75_2
         try clear hcz75_3
         try clear hcz75_4
         try clear hcz79_0
         try clear hcz79_1
         try clear hcz79_2
         try clear hcz79_3
         try clear hcz79_4
         try clear hcz80_0
         try clear hcz80_1
         try clear hcz80_2
         try clear hcz80_3
         try clear hcz80_4
         try clear hcz86_0
         try clear hcz86_1
         try clear hcz86_2
         try clear hcz86_3
         try clear hcz86_4
         try clear hcz90_0
         try clear hcz90_1
         try clear hcz90_2
         try clear hcz90_3
         try clear hcz90_4
         try clear hfz11_0
         try clear hfz11_1
         try clear hfz11_2
         try clear hfz11_3
         try clear hfz11_4
         try clear hfz13_0
         try clear hfz13_1
         try clear hfz13_2
         try clear hfz13_3
         try clear hfz13_4
         try clear hfz26_0
         try clear hfz26_1
         try clear hfz26_2
         try clear hfz26_3
         try clear hfz26_4
         try clear hfz33_0
         try clear hfz33_1
         try clear hfz33_2
         try clear hfz33_3
         try clear hfz33_4
         try clear hfz41_0
         try clear hfz41_1
         try clear hfz41_2
         try clear hfz41_3
         try clear hfz41_4
         try clear hfz52_0
         try clear hfz52_1
         try clear hfz52_2
         try clear hfz52_3
         try clear hfz52_4
         try clear hfz56_0
         try clear hfz56_1
         try clear hfz56_2
         try clear hfz56_3
         try clear hfz56_4
         try clear hfz60_0
         try clear hfz60_1
         try clear hfz60_2
         try clear hfz60_3
         try clear hfz60_4
         try clear hfz61_0
         try clear hfz61_1
         try clear hfz61_2
         try clear hfz61_3
         try clear hfz61_4
         try clear hfz64_0
         try clear hfz64_1
         try clear hfz64_2
         try clear hfz64_3
         try clear hfz64_4
         try clear hfz65_0
         try clear hfz65_1
         try clear hfz65_2
         try clear hfz65_3
         try clear hfz65_4
         try clear hfz71_0
         try clear hfz71_1
         try clear hfz71_2
         try clear hfz71_3
         try clear hfz71_4
         try clear hfz75_0
         try clear hfz75_1
         try clear hfz75_2
         try clear hfz75_3
         try clear hfz75_4
         try clear hfz79_0
         try clear hfz79_1
         try clear hfz79_2
         try clear hfz79_3
         try clear hfz79_4
         try clear hfz80_0
         try clear hfz80_1
         try clear hfz80_2
         try clear hfz80_3
         try clear hfz80_4
         try clear hfz86_0
         try clear hfz86_1
         try clear hfz86_2
         try clear hfz86_3
         try clear hfz86_4
         try clear hfz90_0
         try clear hfz90_1
         try clear hfz90_2
         try clear hfz90_3
         try clear hfz90_4
         try clear p2
         obtain ⟨x15_3, x474004_3, x483004_3, x492004_3, u474004, u483004, u492004, rfl, HA, HK3, HO_474004, HO_483004, HO_492004, BK458, BK459, BK473, BK482, BK491, HB⟩ := hrel
         cases gk with
         | zero => exact absurd HA.out (by simp [cofferlaw13_VersionApart.l0])
         | succ k3 =>
          have H := HA.out
          clear HA
          simp only [cofferlaw13_VersionApart.l0] at H
          by_cases c93 : x15_3 < (x474004_3.length : Int)
          ·rw [if_pos c93] at H
           have c93b0 : decide (x15_3 < (x474004_3.length : Int)) = true := decide_eq_true c93
           clear c93
           by_cases c94 : 0 ≤ x15_3
           ·rw [if_pos c94] at H
            have c94b0 : decide (0 ≤ x15_3) = true := decide_eq_true c94
            clear c94
            obtain ⟨y495, hy495⟩ : ∃ y_ : List (S31), y_ = (x474004_3.set (x15_3 : Int).toNat (⟨(⟨#[120]⟩ : ByteArray), (⟨#[]⟩ : ByteArray)⟩ : S31)) := ⟨_, rfl⟩
            replace H : (cofferlaw13_VersionApart.l0 k3 t460 (wrap64 (x15_3 + 1)) a0_0 a0_1 a0_2 a0_3 l0_4 a1_0 a1_1 a1_2 a1_3 l1_4 t465 t466 t467 t468 y495 t474 t475 t476 t477 x483004_3 t483 t484 t485 t486 x492004_3) = some r := by first | (rw [hy495]; with_reducible exact H) | (have H2_ := (Option.bind_some _ _).symm.trans H; rw [hy495]; with_reducible exact H2_) | (have H2_ := (Option.bind_some _ _).symm.trans H; with_reducible exact H2_) | with_reducible exact H | (rw [hy495]; exact H) | exact H
            have Ny495 := Aside0.mk hy495
            clear hy495
            have H' := Aside0.mk H
            clear H
            have hnb96 := NB473_458.out
            have hnc96 := NB458_473.out
            have hnb97 := NB473_459.out
            have hnc97 := NB459_473.out
            have hnb98 := NB473_482.out
            have hnc98 := NB482_473.out
            have hnb99 := NB473_491.out
            have hnc99 := NB491_473.out
            have hcz100_0 : wr.cell? ⟨gb473, 0, none⟩ = some (.string t465) := (blk_cell BK473.out 0).trans rfl
            have hcz100_1 : wr.cell? ⟨gb473, 1, none⟩ = some (.int .i64 t466) := (blk_cell BK473.out 1).trans rfl
            have hcz100_2 : wr.cell? ⟨gb473, 2, none⟩ = some (.bool t467) := (blk_cell BK473.out 2).trans rfl
            have hcz100_3 : wr.cell? ⟨gb473, 3, none⟩ = some (.string t468) := (blk_cell BK473.out 3).trans rfl
            have hcz100_4 : wr.cell? ⟨gb473, 4, none⟩ = some (u474004) := (blk_cell BK473.out 4).trans rfl
            have hfz100_0 := blk_frozen BK473.out 0
            have hfz100_1 := blk_frozen BK473.out 1
            have hfz100_2 := blk_frozen BK473.out 2
            have hfz100_3 := blk_frozen BK473.out 3
            have hfz100_4 := blk_frozen BK473.out 4
            obtain ⟨Ao101, co101, eo101⟩ := Kd.R_slice HO_474004.out
            subst eo101
            have p95 : 0 ≤ (x15_3 : Int) := of_decide_eq_true (by first | (with_reducible assumption) | assumption)
            have q95 : (x15_3 : Int) < ((x474004_3.length : Int) : Int) := of_decide_eq_true (by first | (with_reducible assumption) | assumption)
            obtain ⟨go95, co95, eo95, gb95, gl95, cl95, HG95⟩ := Kd.R_form HO_474004.out (by omega)
            (first | cases eo95 | (injection eo95 with ea_ en_ ec_; (first | subst ea_ | (injection ea_ with ea_; subst ea_)); subst ec_; clear en_))
            have GB95 := Aside0.mk gb95
            have GG95 := Aside0.mk HG95
            clear gb95 gl95 HG95
            obtain ⟨ce95, hcl95, hM95, hcc95, hfr95⟩ := Kd.R_elem HO_474004.out z31 (x15_3 : Int) p95 q95
            obtain rfl := k31_openM hM95
            have hx95_0 : wr.cell? ⟨go95, (x15_3 : Int).toNat * 2, none⟩ = some (.string ((rd_T31 x474004_3 x15_3).f0)) := hcc95 0 _ rfl
            have hx95_1 : wr.cell? ⟨go95, (x15_3 : Int).toNat * 2 + 1, none⟩ = some (.string ((rd_T31 x474004_3 x15_3).f1)) := hcc95 1 _ rfl
            have hf95_0 : wr.frozen? ⟨go95, (x15_3 : Int).toNat * 2, none⟩ = false := hfr95 0
            have hf95_1 : wr.frozen? ⟨go95, (x15_3 : Int).toNat * 2 + 1, none⟩ = false := hfr95 1
            clear hcl95 hcc95 hfr95 hM95
            replace p95 := eq_true p95
            replace q95 := eq_true q95
            have HX102 := Aside0.mk (show Kd.R k31 31 wr w.heap.size (fun k_ => some k_ ≠ (u483004 : Value).ownBlock ∧ some k_ ≠ (u492004 : Value).ownBlock) (.slice (some ⟨go95, 0, none⟩) x474004_3.length co101) x474004_3 from (by (with_reducible repeat (first | apply Kd.R_alloc | apply Kd.R_drewN | apply Kd.R_drew)); exact HO_474004.out))
            obtain ⟨ce102, hcl102, hM102, hcc102, hfr102⟩ := Kd.R_elem HX102.out z31 (x15_3 : Int) (of_decide_eq_true (by first | (with_reducible assumption) | assumption)) (by have h_ : (x15_3 : Int) < ((x474004_3.length : Int) : Int) := of_decide_eq_true (by first | (with_reducible assumption) | assumption); first | exact h_ | (have e_ := (Kd.R_reads' HO_474004.out).1; omega) | simpa using h_)
            obtain rfl := k31_openM hM102
            have HP102 := Kd.R_seg HX102.out (x15_3 : Int) (of_decide_eq_true (by first | (with_reducible assumption) | assumption)) (by have h_ : (x15_3 : Int) < ((x474004_3.length : Int) : Int) := of_decide_eq_true (by first | (with_reducible assumption) | assumption); first | exact h_ | (have e_ := (Kd.R_reads' HO_474004.out).1; omega) | simpa using h_) (seg := [.string (⟨#[120]⟩ : ByteArray), .string (⟨#[]⟩ : ByteArray)]) (j := 0) hcl102 hcc102 (show 2 ≤ 2 from by decide) (x' := (⟨(⟨#[120]⟩ : ByteArray), (⟨#[]⟩ : ByteArray)⟩ : S31)) (k31_mkM _ _ _ (⟨(⟨#[120]⟩ : ByteArray), (⟨#[]⟩ : ByteArray)⟩ : S31) ) (fun _ hk => hk)
            have hx102_0 := hcc102 0 _ rfl
            (try simp only [show (k31).sz = 2 from rfl, Nat.mul_one, Nat.add_zero] at hx102_0)
            have hf102_0 := hfr102 0
            (try simp only [show (k31).sz = 2 from rfl, Nat.mul_one, Nat.add_zero] at hf102_0)
            have hx102_1 := hcc102 1 _ rfl
            (try simp only [show (k31).sz = 2 from rfl, Nat.mul_one, Nat.add_zero] at hx102_1)
            have hf102_1 := hfr102 1
            (try simp only [show (k31).sz = 2 from rfl, Nat.mul_one, Nat.add_zero] at hf102_1)
            clear hcl102 hcc102 hfr102 hM102
            go_wp2_with (first | ((with_reducible refine gate_store (t := 31) (p := 82) rfl ?_); refine store_event (t := 31) (p := 82) (v := ?vo_w103) (w1 := ((wr.setCell ⟨go95, (x15_3 : Int).toNat * 2, none⟩ (.string (⟨#[120]⟩ : ByteArray))).setCell ⟨go95, (x15_3 : Int).toNat * 2 + 1, none⟩ (.string (⟨#[]⟩ : ByteArray)))) ?hg ?ho ?hn ?hr ?_; (case ho => rfl); (case hg => rfl); (case hn => rfl); (case hr => first | (go_simp; done) | (go_simp; rfl)); intro w103 hw; have hg : wr.grownBy w103 (some go95) := (by rw [hw]; exact HP102.2); have hp_ : Kd.R k31 31 w103 w.heap.size (fun k_ => some k_ ≠ (u483004 : Value).ownBlock ∧ some k_ ≠ (u492004 : Value).ownBlock) (.slice (some ⟨go95, 0, none⟩) x474004_3.length co101) y495 := (by rw [hw, Ny495.out]; exact HP102.1); clear HP102; have n0_ := Aside0.mk (hp_); have n1_ := Aside0.mk (Kd.R_after (v := (.slice (some ⟨go95, 0, none⟩) x474004_3.length co101)) (v1 := (.slice (some ⟨go95, 0, none⟩) x474004_3.length co101)) (ok := (fun k_ => some k_ ≠ (u492004 : Value).ownBlock)) (by (with_reducible repeat (first | apply Kd.R_alloc | apply Kd.R_drewN | apply Kd.R_drew)); exact Kd.R_mono HO_483004.out (fun _ hk => ⟨hk.2, hk.1⟩)) hg (.inl rfl)); have n2_ := Aside0.mk (Kd.R_after (v := (.slice (some ⟨go95, 0, none⟩) x474004_3.length co101)) (v1 := (.slice (some ⟨go95, 0, none⟩) x474004_3.length co101)) (ok := (fun k_ => some k_ ≠ (u483004 : Value).ownBlock)) (by (with_reducible repeat (first | apply Kd.R_alloc | apply Kd.R_drewN | apply Kd.R_drew)); exact Kd.R_mono HO_492004.out (fun _ hk => ⟨hk.2, hk.1⟩)) hg (.inl rfl)); have n3_ := Aside0.mk (blk_grown (g := gb458) (o := .cells #[.string a0_0, .int .i64 a0_1, .bool a0_2, .string a0_3, .slice A0_4 l0_4.length c0_4] 24 (0, 0)) (by (with_reducible repeat (first | refine blk_drewN ?_ _ | refine blk_drew ?_ | refine blk_alloc ?_ _)); exact BK458.out) hg (Kd.R_ne HO_474004.out BK458.out (by decide))); have n4_ := Aside0.mk (blk_grown (g := gb459) (o := .cells #[.string a1_0, .int .i64 a1_1, .bool a1_2, .string a1_3, .slice A1_4 l1_4.length c1_4] 24 (0, 0)) (by (with_reducible repeat (first | refine blk_drewN ?_ _ | refine blk_drew ?_ | refine blk_alloc ?_ _)); exact BK459.out) hg (Kd.R_ne HO_474004.out BK459.out (by decide))); have n5_ := Aside0.mk (blk_grown (g := gb473) (o := .cells #[.string t465, .int .i64 t466, .bool t467, .string t468, .slice (some ⟨go95, 0, none⟩) x474004_3.length co101] 24 (0, 0)) (by (with_reducible repeat (first | refine blk_drewN ?_ _ | refine blk_drew ?_ | refine blk_alloc ?_ _)); exact BK473.out) hg (Kd.R_ne HO_474004.out BK473.out (by decide))); have n6_ := Aside0.mk (blk_grown (g := gb482) (o := .cells #[.string t474, .int .i64 t475, .bool t476, .string t477, u483004] 24 (0, 0)) (by (with_reducible repeat (first | refine blk_drewN ?_ _ | refine blk_drew ?_ | refine blk_alloc ?_ _)); exact BK482.out) hg (Kd.R_ne HO_474004.out BK482.out (by decide))); have n7_ := Aside0.mk (blk_grown (g := gb491) (o := .cells #[.string t483, .int .i64 t484, .bool t485, .string t486, u492004] 24 (0, 0)) (by (with_reducible repeat (first | refine blk_drewN ?_ _ | refine blk_drew ?_ | refine blk_alloc ?_ _)); exact BK491.out) hg (Kd.R_ne HO_474004.out BK491.out (by decide))); have n8_ := Aside0.mk ((by rw [hw]; exact below_set (below_set (HB.out) GB95.out) GB95.out : Below w.heap.size w w103)); clear HO_474004; clear HO_483004; clear HO_492004; clear BK458; clear BK459; clear BK473; clear BK482; clear BK491; clear HB; have HO_474004 := n0_; have HO_483004 := n1_; have HO_492004 := n2_; have BK458 := n3_; have BK459 := n4_; have BK473 := n5_; have BK482 := n6_; have BK491 := n7_; have HB := n8_; clear n0_ n1_ n2_ n3_ n4_ n5_ n6_ n7_ n8_; clear hg hw hp_))
            go_roundg k3
            case measure => have := HJ6.out; have := HJ20.out; have := HK3.out; omega
            case rel => exact ⟨(wrap64 (x15_3 + 1)), (y495), (x483004_3), (x492004_3), (.slice (some ⟨go95, 0, none⟩) x474004_3.length co101), (u483004), (u492004), (by first | rfl | (simp; done) | (simp [Go.Proofs.Ytdhkcklgnnilfaa.Z.bne_nil, Go.Proofs.Ytdhkcklgnnilfaa.Z.beq_nil]; done) | (simp [*]; done)), H', ⟨by have := HJ6.out; have := HJ20.out; have := HK3.out; omega⟩, ⟨by (with_reducible repeat (first | apply Kd.R_alloc | apply Kd.R_drewN | apply Kd.R_drew)); exact HO_474004.out⟩, ⟨by (with_reducible repeat (first | apply Kd.R_alloc | apply Kd.R_drewN | apply Kd.R_drew)); exact Kd.R_mono HO_483004.out (fun _ hk => ⟨hk.2, hk.1⟩)⟩, ⟨by (with_reducible repeat (first | apply Kd.R_alloc | apply Kd.R_drewN | apply Kd.R_drew)); exact Kd.R_mono HO_492004.out (fun _ hk => ⟨hk.2, hk.1⟩)⟩, ⟨by (with_reducible repeat (first | refine blk_drewN ?_ _ | refine blk_drew ?_ | refine blk_alloc ?_ _)); exact BK458.out⟩, ⟨by (with_reducible repeat (first | refine blk_drewN ?_ _ | refine blk_drew ?_ | refine blk_alloc ?_ _)); exact BK459.out⟩, ⟨by (with_reducible repeat (first | refine blk_drewN ?_ _ | refine blk_drew ?_ | refine blk_alloc ?_ _)); exact BK473.out⟩, ⟨by (with_reducible repeat (first | refine blk_drewN ?_ _ | refine blk_drew ?_ | refine blk_alloc ?_ _)); exact BK482.out⟩, ⟨by (with_reducible repeat (first | refine blk_drewN ?_ _ | refine blk_drew ?_ | refine blk_alloc ?_ _)); exact BK491.out⟩, ⟨by repeat (first | (with_reducible first | exact HB.out | apply below_alloc | apply pw_below_drewN | apply below_drew1 | refine below_set ?_ GE458.out | refine below_set ?_ GE459.out | refine below_set ?_ GE473.out | refine below_set ?_ GE482.out | refine below_set ?_ GE491.out) | exact HB.out)⟩⟩
           ·rw [if_neg c94] at H
            exact absurd H (by simp)
          ·rw [if_neg c93] at H
           have c93b0 : decide (x15_3 < (x474004_3.length : Int)) = false := decide_eq_false c93
           clear c93
           have H' := Aside0.mk H
           clear H
           have hnb104 := NB473_458.out
           have hnc104 := NB458_473.out
           have hnb105 := NB473_459.out
           have hnc105 := NB459_473.out
           have hnb106 := NB473_482.out
           have hnc106 := NB482_473.out
           have hnb107 := NB473_491.out
           have hnc107 := NB491_473.out
           have hcz108_0 : wr.cell? ⟨gb473, 0, none⟩ = some (.string t465) := (blk_cell BK473.out 0).trans rfl
           have hcz108_1 : wr.cell? ⟨gb473, 1, none⟩ = some (.int .i64 t466) := (blk_cell BK473.out 1).trans rfl
           have hcz108_2 : wr.cell? ⟨gb473, 2, none⟩ = some (.bool t467) := (blk_cell BK473.out 2).trans rfl
           have hcz108_3 : wr.cell? ⟨gb473, 3, none⟩ = some (.string t468) := (blk_cell BK473.out 3).trans rfl
           have hcz108_4 : wr.cell? ⟨gb473, 4, none⟩ = some (u474004) := (blk_cell BK473.out 4).trans rfl
           have hfz108_0 := blk_frozen BK473.out 0
           have hfz108_1 := blk_frozen BK473.out 1
           have hfz108_2 := blk_frozen BK473.out 2
           have hfz108_3 := blk_frozen BK473.out 3
           have hfz108_4 := blk_frozen BK473.out 4
           obtain ⟨Ao109, co109, eo109⟩ := Kd.R_slice HO_474004.out
           subst eo109
           go_wp2
           go_loopg [16] k3 (fun kq v16 w' => ∃ (x16_4 : Int) (x474004_4 : List (S31)) (x483004_4 : List (S31)) (x492004_4 : List (S31)) (u474004 : Value) (u483004 : Value) (u492004 : Value), v16 = .int .i64 x16_4 ∧ Aside0 (cofferlaw13_VersionApart.l1 kq t460 x16_4 a0_0 a0_1 a0_2 a0_3 l0_4 a1_0 a1_1 a1_2 a1_3 l1_4 t465 t466 t467 t468 x474004_4 t474 t475 t476 t477 x483004_4 t483 t484 t485 t486 x492004_4 = some r) ∧ Aside0 (kq ≤ k3) ∧ Aside0 (Kd.R k31 31 w' w.heap.size (fun k_ => some k_ ≠ (u483004 : Value).ownBlock ∧ some k_ ≠ (u492004 : Value).ownBlock) u474004 x474004_4) ∧ Aside0 (Kd.R k31 31 w' w.heap.size (fun k_ => some k_ ≠ (u474004 : Value).ownBlock ∧ some k_ ≠ (u492004 : Value).ownBlock) u483004 x483004_4) ∧ Aside0 (Kd.R k31 31 w' w.heap.size (fun k_ => some k_ ≠ (u474004 : Value).ownBlock ∧ some k_ ≠ (u483004 : Value).ownBlock) u492004 x492004_4) ∧ Aside0 (w'.heap[gb458]? = some (.cells #[.string a0_0, .int .i64 a0_1, .bool a0_2, .string a0_3, (.slice A0_4 l0_4.length c0_4)] 24 (0, 0))) ∧ Aside0 (w'.heap[gb459]? = some (.cells #[.string a1_0, .int .i64 a1_1, .bool a1_2, .string a1_3, (.slice A1_4 l1_4.length c1_4)] 24 (0, 0))) ∧ Aside0 (w'.heap[gb473]? = some (.cells #[.string t465, .int .i64 t466, .bool t467, .string t468, u474004] 24 (0, 0))) ∧ Aside0 (w'.heap[gb482]? = some (.cells #[.string t474, .int .i64 t475, .bool t476, .string t477, u483004] 24 (0, 0))) ∧ Aside0 (w'.heap[gb491]? = some (.cells #[.string t483, .int .i64 t484, .bool t485, .string t486, u492004] 24 (0, 0))) ∧ Aside0 (Below w.heap.size w w'))
           case atStart => exact ⟨(0), (x474004_3), (x483004_3), (x492004_3), (.slice Ao109 x474004_3.length co109), (u483004), (u492004), (by first | rfl | (simp; done) | (simp [Go.Proofs.Ytdhkcklgnnilfaa.Z.bne_nil, Go.Proofs.Ytdhkcklgnnilfaa.Z.beq_nil]; done) | (simp [*]; done)), H', ⟨Nat.le_refl _⟩, ⟨by (with_reducible repeat (first | apply Kd.R_alloc | apply Kd.R_drewN | apply Kd.R_drew)); exact HO_474004.out⟩, ⟨by (with_reducible repeat (first | apply Kd.R_alloc | apply Kd.R_drewN | apply Kd.R_drew)); exact HO_483004.out⟩, ⟨by (with_reducible repeat (first | apply Kd.R_alloc | apply Kd.R_drewN | apply Kd.R_drew)); exact HO_492004.out⟩, ⟨by (with_reducible repeat (first | refine blk_drewN ?_ _ | refine blk_drew ?_ | refine blk_alloc ?_ _)); exact BK458.out⟩, ⟨by (with_reducible repeat (first | refine blk_drewN ?_ _ | refine blk_drew ?_ | refine blk_alloc ?_ _)); exact BK459.out⟩, ⟨by (with_reducible repeat (first | refine blk_drewN ?_ _ | refine blk_drew ?_ | refine blk_alloc ?_ _)); exact BK473.out⟩, ⟨by (with_reducible repeat (first | refine blk_drewN ?_ _ | refine blk_drew ?_ | refine blk_alloc ?_ _)); exact BK482.out⟩, ⟨by (with_reducible repeat (first | refine blk_drewN ?_ _ | refine blk_drew ?_ | refine blk_alloc ?_ _)); exact BK491.out⟩, ⟨by repeat (first | (with_reducible first | exact HB.out | apply below_alloc | apply pw_below_drewN | apply below_drew1 | refine below_set ?_ GE458.out | refine below_set ?_ GE459.out | refine below_set ?_ GE473.out | refine below_set ?_ GE482.out | refine below_set ?_ GE491.out) | exact HB.out)⟩⟩
           case round =>
            clear H'
            try clear c1
            try clear hx1
            try clear c2
            try clear p2
            try clear c3
            try clear c4
            try clear c5
            try clear c6
            try clear p6
            try clear c7
            try clear c8
            try clear c9
            try clear p9
            try clear q9
            try clear hx9
            try clear hf9
            try clear c10
            try clear hx10
            try clear hf10
            try clear c12
            try clear c13
            try clear c15
            try clear c16
            try clear c16b0
            try clear c16b1
            try clear c17
            try clear c24
            try clear c25
            try clear c30
            try clear c31
            try clear c32
            try clear c37
            try clear c38
            try clear c39
            try clear c40
            try clear c44
            try clear c46
            try clear c48
            try clear c49
            try clear c50
            try clear c51
            try clear c53
            try clear c54
            try clear c55
            try clear c58
            try clear c59
            try clear c63
            try clear p64
            try clear c67
            try clear c68
            try clear c69
            try clear c70
            try clear c72
            try clear c73
            try clear c74
            try clear c77
            try clear c78
            try clear c82
            try clear c83
            try clear c84
            try clear c85
            try clear c87
            try clear c88
            try clear c89
            try clear c92
            try clear c93
            try clear c93b0
            try clear c94
            try clear c94b0
            try clear c95
            try clear p95
            try clear q95
            try clear hx95
            try clear hf95
            try clear c96
            try clear c97
            try clear c98
            try clear c99
            try clear c102
            try clear hx102
            try clear hf102
            try clear c104
            try clear c105
            try clear c106
            try clear c107
            try clear hcz100_0
            try clear hcz100_1
            try clear hcz100_2
            try clear hcz100_3
            try clear hcz100_4
            try clear hcz108_0
            try clear hcz108_1
            try clear hcz108_2
            try clear hcz108_3
            try clear hcz108_4
            try clear hcz11_0
            try clear hcz11_1
            try clear hcz11_2
            try clear hcz11_3
            try clear hcz11_4
            try clear hcz13_0
            try clear hcz13_1
            try clear hcz13_2
            try clear hcz13_3
            try clear hcz13_4
            try clear hcz26_0
            try clear hcz26_1
            try clear hcz26_2
            try clear hcz26_3
            try clear hcz26_4
            try clear hcz33_0
            try clear hcz33_1
            try clear hcz33_2
            try clear hcz33_3
            try clear hcz33_4
            try clear hcz41_0
            try clear hcz41_1
            try clear hcz41_2
            try clear hcz41_3
            try clear hcz41_4
            try clear hcz52_0
            try clear hcz52_1
            try clear hcz52_2
            try clear hcz52_3
            try clear hcz52_4
            try clear hcz56_0
            try clear hcz56_1
            try clear hcz56_2
            try clear hcz56_3
            try clear hcz56_4
            try clear hcz60_0
            try clear hcz60_1
            try clear hcz60_2
            try clear hcz60_3
            try clear hcz60_4
            try clear hcz61_0
            try clear hcz61_1
            try clear hcz61_2
            try clear hcz61_3
            try clear hcz61_4
            try clear hcz64_0
            try clear hcz64_1
            try clear hcz64_2
            try clear hcz64_3
            try clear hcz64_4
            try clear hcz65_0
            try clear hcz65_1
            try clear hcz65_2
            try clear hcz65_3
            try clear hcz65_4
            try clear hcz71_0
            try clear hcz71_1
            try clear hcz71_2
            try clear hcz71_3
            try clear hcz71_4
            try clear hcz75_0
            try clear hcz75_1
            try clear hcz75_2
            try clear hcz75_3
            try clear hcz75_4
            try clear hcz79_0
            try clear hcz79_1
            try clear hcz79_2
            try clear hcz79_3
            try clear hcz79_4
            try clear hcz80_0
            try clear hcz80_1
            try clear hcz80_2
            try clear hcz80_3
            try clear hcz80_4
            try clear hcz86_0
            try clear hcz86_1
            try clear hcz86_2
            try clear hcz86_3
            try clear hcz86_4
            try clear hcz90_0
            try clear hcz90_1
            try clear hcz90_2
            try clear hcz90_3
            try clear hcz90_4
            try clear hfz100_0
            try clear hfz100_1
            try clear hfz100_2
            try clear hfz100_3
            try clear hfz100_4
            try clear hfz108_0
            try clear hfz108_1
            try clear hfz108_2
            try clear hfz108_3
            try clear hfz108_4
            try clear hfz11_0
            try clear hfz11_1
            try clear hfz11_2
            try clear hfz11_3
            try clear hfz11_4
            try clear hfz13_0
            try clear hfz13_1
            try clear hfz13_2
            try clear hfz13_3
            try clear hfz13_4
            try clear hfz26_0
            try clear hfz26_1
            try clear hfz26_2
            try clear hfz26_3
            try clear hfz26_4
            try clear hfz33_0
            try clear hfz33_1
            try clear hfz33_2
            try clear hfz33_3
            try clear hfz33_4
            try clear hfz41_0
            try clear hfz41_1
            try clear hfz41_2
            try clear hfz41_3
            try clear hfz41_4
            try clear hfz52_0
            try clear hfz52_1
            try clear hfz52_2
            try clear hfz52_3
            try clear hfz52_4
            try clear hfz56_0
            try clear hfz56_1
            try clear hfz56_2
            try clear hfz56_3
            try clear hfz56_4
            try clear hfz60_0
            try clear hfz60_1
            try clear hfz60_2
            try clear hfz60_3
            try clear hfz60_4
            try clear hfz61_0
            try clear hfz61_1
            try clear hfz61_2
            try clear hfz61_3
            try clear hfz61_4
            try clear hfz64_0
            try clear hfz64_1
            try clear hfz64_2
            try clear hfz64_3
            try clear hfz64_4
            try clear hfz65_0
            try clear hfz65_1
            try clear hfz65_2
            try clear hfz65_3
            try clear hfz65_4
            try clear hfz71_0
            try clear hfz71_1
            try clear hfz71_2
            try clear hfz71_3
            try clear hfz71_4
            try clear hfz75_0
            try clear hfz75_1
            try clear hfz75_2
            try clear hfz75_3
            try clear hfz75_4
            try clear hfz79_0
            try clear hfz79_1
            try clear hfz79_2
            try clear hfz79_3
            try clear hfz79_4
            try clear hfz80_0
            try clear hfz80_1
            try clear hfz80_2
            try clear hfz80_3
            try clear hfz80_4
            try clear hfz86_0
            try clear hfz86_1
            try clear hfz86_2
            try clear hfz86_3
            try clear hfz86_4
            try clear hfz90_0
            try clear hfz90_1
            try clear hfz90_2
            try clear hfz90_3
            try clear hfz90_4
            try clear hx102_0
            try clear hx102_1
            try clear hx95_0
            try clear hx95_1
            try clear p2
            try clear p95
            try clear q95
            obtain ⟨x16_4, x474004_4, x483004_4, x492004_4, u474004, u483004, u492004, rfl, HA, HK4, HO_474004, HO_483004, HO_492004, BK458, BK459, BK473, BK482, BK491, HB⟩ := hrel
            cases gk with
            | zero => exact absurd HA.out (by simp [cofferlaw13_VersionApart.l1])
            | succ k4 =>
             have H := HA.out
             clear HA
             simp only [cofferlaw13_VersionApart.l1] at H
             by_cases c110 : x16_4 < (x492004_4.length : Int)
             ·rw [if_pos c110] at H
              have c110b0 : decide (x16_4 < (x492004_4.length : Int)) = true := decide_eq_true c110
              clear c110
              by_cases c111 : 0 ≤ x16_4
              ·rw [if_pos c111] at H
               have c111b0 : decide (0 ≤ x16_4) = true := decide_eq_true c111
               clear c111
               obtain ⟨y496, hy496⟩ : ∃ y_ : List (S31), y_ = (x492004_4.set (x16_4 : Int).toNat (⟨(⟨#[122]⟩ : ByteArray), (⟨#[]⟩ : ByteArray)⟩ : S31)) := ⟨_, rfl⟩
               replace H : (cofferlaw13_VersionApart.l1 k4 t460 (wrap64 (x16_4 + 1)) a0_0 a0_1 a0_2 a0_3 l0_4 a1_0 a1_1 a1_2 a1_3 l1_4 t465 t466 t467 t468 x474004_4 t474 t475 t476 t477 x483004_4 t483 t484 t485 t486 y496) = some r := by first | (rw [hy496]; with_reducible exact H) | (have H2_ := (Option.bind_some _ _).symm.trans H; rw [hy496]; with_reducible exact H2_) | (have H2_ := (Option.bind_some _ _).symm.trans H; with_reducible exact H2_) | with_reducible exact H | (rw [hy496]; exact H) | exact H
               have Ny496 := Aside0.mk hy496
               clear hy496
               have H' := Aside0.mk H
               clear H
               have hnb113 := NB491_458.out
               have hnc113 := NB458_491.out
               have hnb114 := NB491_459.out
               have hnc114 := NB459_491.out
               have hnb115 := NB491_473.out
               have hnc115 := NB473_491.out
               have hnb116 := NB491_482.out
               have hnc116 := NB482_491.out
               have hcz117_0 : wr.cell? ⟨gb491, 0, none⟩ = some (.string t483) := (blk_cell BK491.out 0).trans rfl
               have hcz117_1 : wr.cell? ⟨gb491, 1, none⟩ = some (.int .i64 t484) := (blk_cell BK491.out 1).trans rfl
               have hcz117_2 : wr.cell? ⟨gb491, 2, none⟩ = some (.bool t485) := (blk_cell BK491.out 2).trans rfl
               have hcz117_3 : wr.cell? ⟨gb491, 3, none⟩ = some (.string t486) := (blk_cell BK491.out 3).trans rfl
               have hcz117_4 : wr.cell? ⟨gb491, 4, none⟩ = some (u492004) := (blk_cell BK491.out 4).trans rfl
               have hfz117_0 := blk_frozen BK491.out 0
               have hfz117_1 := blk_frozen BK491.out 1
               have hfz117_2 := blk_frozen BK491.out 2
               have hfz117_3 := blk_frozen BK491.out 3
               have hfz117_4 := blk_frozen BK491.out 4
               obtain ⟨Ao118, co118, eo118⟩ := Kd.R_slice HO_492004.out
               subst eo118
               have p112 : 0 ≤ (x16_4 : Int) := of_decide_eq_true (by first | (with_reducible assumption) | assumption)
               have q112 : (x16_4 : Int) < ((x492004_4.length : Int) : Int) := of_decide_eq_true (by first | (with_reducible assumption) | assumption)
               obtain ⟨go112, co112, eo112, gb112, gl112, cl112, HG112⟩ := Kd.R_form HO_492004.out (by omega)
               (first | cases eo112 | (injection eo112 with ea_ en_ ec_; (first | subst ea_ | (injection ea_ with ea_; subst ea_)); subst ec_; clear en_))
               have GB112 := Aside0.mk gb112
               have GG112 := Aside0.mk HG112
               clear gb112 gl112 HG112
               obtain ⟨ce112, hcl112, hM112, hcc112, hfr112⟩ := Kd.R_elem HO_492004.out z31 (x16_4 : Int) p112 q112
               obtain rfl := k31_openM hM112
               have hx112_0 : wr.cell? ⟨go112, (x16_4 : Int).toNat * 2, none⟩ = some (.string ((rd_T31 x492004_4 x16_4).f0)) := hcc112 0 _ rfl
               have hx112_1 : wr.cell? ⟨go112, (x16_4 : Int).toNat * 2 + 1, none⟩ = some (.string ((rd_T31 x492004_4 x16_4).f1)) := hcc112 1 _ rfl
               have hf112_0 : wr.frozen? ⟨go112, (x16_4 : Int).toNat * 2, none⟩ = false := hfr112 0
               have hf112_1 : wr.frozen? ⟨go112, (x16_4 : Int).toNat * 2 + 1, none⟩ = false := hfr112 1
               clear hcl112 hcc112 hfr112 hM112
               replace p112 := eq_true p112
               replace q112 := eq_true q112
               have HX119 := Aside0.mk (show Kd.R k31 31 wr w.heap.size (fun k_ => some k_ ≠ (u474004 : Value).ownBlock ∧ some k_ ≠ (u483004 : Value).ownBlock) (.slice (some ⟨go112, 0, none⟩) x492004_4.length co118) x492004_4 from (by (with_reducible repeat (first | apply Kd.R_alloc | apply Kd.R_drewN | apply Kd.R_drew)); exact HO_492004.out))
               obtain ⟨ce119, hcl119, hM119, hcc119, hfr119⟩ := Kd.R_elem HX119.out z31 (x16_4 : Int) (of_decide_eq_true (by first | (with_reducible assumption) | assumption)) (by have h_ : (x16_4 : Int) < ((x492004_4.length : Int) : Int) := of_decide_eq_true (by first | (with_reducible assumption) | assumption); first | exact h_ | (have e_ := (Kd.R_reads' HO_492004.out).1; omega) | simpa using h_)
               obtain rfl := k31_openM hM119
               have HP119 := Kd.R_seg HX119.out (x16_4 : Int) (of_decide_eq_true (by first | (with_reducible assumption) | assumption)) (by have h_ : (x16_4 : Int) < ((x492004_4.length : Int) : Int) := of_decide_eq_true (by first | (with_reducible assumption) | assumption); first | exact h_ | (have e_ := (Kd.R_reads' HO_492004.out).1; omega) | simpa using h_) (seg := [.string (⟨#[122]⟩ : ByteArray), .string (⟨#[]⟩ : ByteArray)]) (j := 0) hcl119 hcc119 (show 2 ≤ 2 from by decide) (x' := (⟨(⟨#[122]⟩ : ByteArray), (⟨#[]⟩ : ByteArray)⟩ : S31)) (k31_mkM _ _ _ (⟨(⟨#[122]⟩ : ByteArray), (⟨#[]⟩ : ByteArray)⟩ : S31) ) (fun _ hk => hk)
               have hx119_0 := hcc119 0 _ rfl
               (try simp only [show (k31).sz = 2 from rfl, Nat.mul_one, Nat.add_zero] at hx119_0)
               have hf119_0 := hfr119 0
               (try simp only [show (k31).sz = 2 from rfl, Nat.mul_one, Nat.add_zero] at hf119_0)
               have hx119_1 := hcc119 1 _ rfl
               (try simp only [show (k31).sz = 2 from rfl, Nat.mul_one, Nat.add_zero] at hx119_1)
               have hf119_1 := hfr119 1
               (try simp only [show (k31).sz = 2 from rfl, Nat.mul_one, Nat.add_zero] at hf119_1)
               clear hcl119 hcc119 hfr119 hM119
               go_wp2_with (first | ((with_reducible refine gate_store (t := 31) (p := 94) rfl ?_); refine store_event (t := 31) (p := 94) (v := ?vo_w120) (w1 := ((wr.setCell ⟨go112, (x16_4 : Int).toNat * 2, none⟩ (.string (⟨#[122]⟩ : ByteArray))).setCell ⟨go112, (x16_4 : Int).toNat * 2 + 1, none⟩ (.string (⟨#[]⟩ : ByteArray)))) ?hg ?ho ?hn ?hr ?_; (case ho => rfl); (case hg => rfl); (case hn => rfl); (case hr => first | (go_simp; done) | (go_simp; rfl)); intro w120 hw; have hg : wr.grownBy w120 (some go112) := (by rw [hw]; exact HP119.2); have hp_ : Kd.R k31 31 w120 w.heap.size (fun k_ => some k_ ≠ (u474004 : Value).ownBlock ∧ some k_ ≠ (u483004 : Value).ownBlock) (.slice (some ⟨go112, 0, none⟩) x492004_4.length co118) y496 := (by rw [hw, Ny496.out]; exact HP119.1); clear HP119; have n0_ := Aside0.mk (Kd.R_after (v := (.slice (some ⟨go112, 0, none⟩) x492004_4.length co118)) (v1 := (.slice (some ⟨go112, 0, none⟩) x492004_4.length co118)) (ok := (fun k_ => some k_ ≠ (u483004 : Value).ownBlock)) (by (with_reducible repeat (first | apply Kd.R_alloc | apply Kd.R_drewN | apply Kd.R_drew)); exact HO_474004.out) hg (.inl rfl)); have n1_ := Aside0.mk (Kd.R_after (v := (.slice (some ⟨go112, 0, none⟩) x492004_4.length co118)) (v1 := (.slice (some ⟨go112, 0, none⟩) x492004_4.length co118)) (ok := (fun k_ => some k_ ≠ (u474004 : Value).ownBlock)) (by (with_reducible repeat (first | apply Kd.R_alloc | apply Kd.R_drewN | apply Kd.R_drew)); exact HO_483004.out) hg (.inl rfl)); have n2_ := Aside0.mk (hp_); have n3_ := Aside0.mk (blk_grown (g := gb458) (o := .cells #[.string a0_0, .int .i64 a0_1, .bool a0_2, .string a0_3, .slice A0_4 l0_4.length c0_4] 24 (0, 0)) (by (with_reducible repeat (first | refine blk_drewN ?_ _ | refine blk_drew ?_ | refine blk_alloc ?_ _)); exact BK458.out) hg (Kd.R_ne HO_492004.out BK458.out (by decide))); have n4_ := Aside0.mk (blk_grown (g := gb459) (o := .cells #[.string a1_0, .int .i64 a1_1, .bool a1_2, .string a1_3, .slice A1_4 l1_4.length c1_4] 24 (0, 0)) (by (with_reducible repeat (first | refine blk_drewN ?_ _ | refine blk_drew ?_ | refine blk_alloc ?_ _)); exact BK459.out) hg (Kd.R_ne HO_492004.out BK459.out (by decide))); have n5_ := Aside0.mk (blk_grown (g := gb473) (o := .cells #[.string t465, .int .i64 t466, .bool t467, .string t468, u474004] 24 (0, 0)) (by (with_reducible repeat (first | refine blk_drewN ?_ _ | refine blk_drew ?_ | refine blk_alloc ?_ _)); exact BK473.out) hg (Kd.R_ne HO_492004.out BK473.out (by decide))); have n6_ := Aside0.mk (blk_grown (g := gb482) (o := .cells #[.string t474, .int .i64 t475, .bool t476, .string t477, u483004] 24 (0, 0)) (by (with_reducible repeat (first | refine blk_drewN ?_ _ | refine blk_drew ?_ | refine blk_alloc ?_ _)); exact BK482.out) hg (Kd.R_ne HO_492004.out BK482.out (by decide))); have n7_ := Aside0.mk (blk_grown (g := gb491) (o := .cells #[.string t483, .int .i64 t484, .bool t485, .string t486, .slice (some ⟨go112, 0, none⟩) x492004_4.length co118] 24 (0, 0)) (by (with_reducible repeat (first | refine blk_drewN ?_ _ | refine blk_drew ?_ | refine blk_alloc ?_ _)); exact BK491.out) hg (Kd.R_ne HO_492004.out BK491.out (by decide))); have n8_ := Aside0.mk ((by rw [hw]; exact below_set (below_set (HB.out) GB112.out) GB112.out : Below w.heap.size w w120)); clear HO_474004; clear HO_483004; clear HO_492004; clear BK458; clear BK459; clear BK473; clear BK482; clear BK491; clear HB; have HO_474004 := n0_; have HO_483004 := n1_; have HO_492004 := n2_; have BK458 := n3_; have BK459 := n4_; have BK473 := n5_; have BK482 := n6_; have BK491 := n7_; have HB := n8_; clear n0_ n1_ n2_ n3_ n4_ n5_ n6_ n7_ n8_; clear hg hw hp_))
               go_roundg k4
               case measure => have := HJ6.out; have := HJ20.out; have := HK3.out; have := HK4.out; omega
               case rel => exact ⟨(wrap64 (x16_4 + 1)), (x474004_4), (x483004_4), (y496), (u474004), (u483004), (.slice (some ⟨go112, 0, none⟩) x492004_4.length co118), (by first | rfl | (simp; done) | (simp [Go.Proofs.Ytdhkcklgnnilfaa.Z.bne_nil, Go.Proofs.Ytdhkcklgnnilfaa.Z.beq_nil]; done) | (simp [*]; done)), H', ⟨by have := HJ6.out; have := HJ20.out; have := HK3.out; have := HK4.out; omega⟩, ⟨by (with_reducible repeat (first | apply Kd.R_alloc | apply Kd.R_drewN | apply Kd.R_drew)); exact HO_474004.out⟩, ⟨by (with_reducible repeat (first | apply Kd.R_alloc | apply Kd.R_drewN | apply Kd.R_drew)); exact HO_483004.out⟩, ⟨by (with_reducible repeat (first | apply Kd.R_alloc | apply Kd.R_drewN | apply Kd.R_drew)); exact HO_492004.out⟩, ⟨by (with_reducible repeat (first | refine blk_drewN ?_ _ | refine blk_drew ?_ | refine blk_alloc ?_ _)); exact BK458.out⟩, ⟨by (with_reducible repeat (first | refine blk_drewN ?_ _ | refine blk_drew ?_ | refine blk_alloc ?_ _)); exact BK459.out⟩, ⟨by (with_reducible repeat (first | refine blk_drewN ?_ _ | refine blk_drew ?_ | refine blk_alloc ?_ _)); exact BK473.out⟩, ⟨by (with_reducible repeat (first | refine blk_drewN ?_ _ | refine blk_drew ?_ | refine blk_alloc ?_ _)); exact BK482.out⟩, ⟨by (with_reducible repeat (first | refine blk_drewN ?_ _ | refine blk_drew ?_ | refine blk_alloc ?_ _)); exact BK491.out⟩, ⟨by repeat (first | (with_reducible first | exact HB.out | apply below_alloc | apply pw_below_drewN | apply below_drew1 | refine below_set ?_ GE458.out | refine below_set ?_ GE459.out | refine below_set ?_ GE473.out | refine below_set ?_ GE482.out | refine below_set ?_ GE491.out) | exact HB.out)⟩⟩
              ·rw [if_neg c111] at H
               exact absurd H (by simp)
             ·rw [if_neg c110] at H
              have c110b0 : decide (x16_4 < (x492004_4.length : Int)) = false := decide_eq_false c110
              clear c110
              have H' := Aside0.mk H
              clear H
              have hnb121 := NB491_458.out
              have hnc121 := NB458_491.out
              have hnb122 := NB491_459.out
              have hnc122 := NB459_491.out
              have hnb123 := NB491_473.out
              have hnc123 := NB473_491.out
              have hnb124 := NB491_482.out
              have hnc124 := NB482_491.out
              have hcz125_0 : wr.cell? ⟨gb491, 0, none⟩ = some (.string t483) := (blk_cell BK491.out 0).trans rfl
              have hcz125_1 : wr.cell? ⟨gb491, 1, none⟩ = some (.int .i64 t484) := (blk_cell BK491.out 1).trans rfl
              have hcz125_2 : wr.cell? ⟨gb491, 2, none⟩ = some (.bool t485) := (blk_cell BK491.out 2).trans rfl
              have hcz125_3 : wr.cell? ⟨gb491, 3, none⟩ = some (.string t486) := (blk_cell BK491.out 3).trans rfl
              have hcz125_4 : wr.cell? ⟨gb491, 4, none⟩ = some (u492004) := (blk_cell BK491.out 4).trans rfl
              have hfz125_0 := blk_frozen BK491.out 0
              have hfz125_1 := blk_frozen BK491.out 1
              have hfz125_2 := blk_frozen BK491.out 2
              have hfz125_3 := blk_frozen BK491.out 3
              have hfz125_4 := blk_frozen BK491.out 4
              obtain ⟨Ao126, co126, eo126⟩ := Kd.R_slice HO_492004.out
              subst eo126
              go_wp2
              go_loopg [17] k4 (fun kq v17 w' => ∃ (x17_5 : Int) (x474004_5 : List (S31)) (x492004_5 : List (S31)) (u474004 : Value) (u492004 : Value), v17 = .int .i64 x17_5 ∧ Aside0 (cofferlaw13_VersionApart.l2 kq t460 x17_5 a0_0 a0_1 a0_2 a0_3 l0_4 a1_0 a1_1 a1_2 a1_3 l1_4 t465 t466 t467 t468 x474004_5 t474 t475 t476 t477 x483004_4 t483 t484 t485 t486 x492004_5 = some r) ∧ Aside0 (kq ≤ k4) ∧ Aside0 (Kd.R k31 31 w' w.heap.size (fun k_ => some k_ ≠ (u483004 : Value).ownBlock ∧ some k_ ≠ (u492004 : Value).ownBlock) u474004 x474004_5) ∧ Aside0 (Kd.R k31 31 w' w.heap.size (fun k_ => some k_ ≠ (u474004 : Value).ownBlock ∧ some k_ ≠ (u492004 : Value).ownBlock) u483004 x483004_4) ∧ Aside0 (Kd.R k31 31 w' w.heap.size (fun k_ => some k_ ≠ (u474004 : Value).ownBlock ∧ some k_ ≠ (u483004 : Value).ownBlock) u492004 x492004_5) ∧ Aside0 (w'.heap[gb458]? = some (.cells #[.string a0_0, .int .i64 a0_1, .bool a0_2, .string a0_3, (.slice A0_4 l0_4.length c0_4)] 24 (0, 0))) ∧ Aside0 (w'.heap[gb459]? = some (.cells #[.string a1_0, .int .i64 a1_1, .bool a1_2, .string a1_3, (.slice A1_4 l1_4.length c1_4)] 24 (0, 0))) ∧ Aside0 (w'.heap[gb473]? = some (.cells #[.string t465, .int .i64 t466, .bool t467, .string t468, u474004] 24 (0, 0))) ∧ Aside0 (w'.heap[gb482]? = some (.cells #[.string t474, .int .i64 t475, .bool t476, .string t477, u483004] 24 (0, 0))) ∧ Aside0 (w'.heap[gb491]? = some (.cells #[.string t483, .int .i64 t484, .bool t485, .string t486, u492004] 24 (0, 0))) ∧ Aside0 (Below w.heap.size w w'))
              case atStart => exact ⟨(0), (x474004_4), (x492004_4), (u474004), (.slice Ao126 x492004_4.length co126), (by first | rfl | (simp; done) | (simp [Go.Proofs.Ytdhkcklgnnilfaa.Z.bne_nil, Go.Proofs.Ytdhkcklgnnilfaa.Z.beq_nil]; done) | (simp [*]; done)), H', ⟨Nat.le_refl _⟩, ⟨by (with_reducible repeat (first | apply Kd.R_alloc | apply Kd.R_drewN | apply Kd.R_drew)); exact HO_474004.out⟩, ⟨by (with_reducible repeat (first | apply Kd.R_alloc | apply Kd.R_drewN | apply Kd.R_drew)); exact HO_483004.out⟩, ⟨by (with_reducible repeat (first | apply Kd.R_alloc | apply Kd.R_drewN | apply Kd.R_drew)); exact HO_492004.out⟩, ⟨by (with_reducible repeat (first | refine blk_drewN ?_ _ | refine blk_drew ?_ | refine blk_alloc ?_ _)); exact BK458.out⟩, ⟨by (with_reducible repeat (first | refine blk_drewN ?_ _ | refine blk_drew ?_ | refine blk_alloc ?_ _)); exact BK459.out⟩, ⟨by (with_reducible repeat (first | refine blk_drewN ?_ _ | refine blk_drew ?_ | refine blk_alloc ?_ _)); exact BK473.out⟩, ⟨by (with_reducible repeat (first | refine blk_drewN ?_ _ | refine blk_drew ?_ | refine blk_alloc ?_ _)); exact BK482.out⟩, ⟨by (with_reducible repeat (first | refine blk_drewN ?_ _ | refine blk_drew ?_ | refine blk_alloc ?_ _)); exact BK491.out⟩, ⟨by repeat (first | (with_reducible first | exact HB.out | apply below_alloc | apply pw_below_drewN | apply below_drew1 | refine below_set ?_ GE458.out | refine below_set ?_ GE459.out | refine below_set ?_ GE473.out | refine below_set ?_ GE482.out | refine below_set ?_ GE491.out) | exact HB.out)⟩⟩
              case round =>
               clear H'
               try clear c1
               try clear p1
               try clear q1
               try clear hx1
               try clear c2
               try clear p2
               try clear c3
               try clear c4
               try clear c5
               try clear c6
               try clear p6
               try clear c7
               try clear c8
               try clear c9
               try clear p9
               try clear q9
               try clear hx9
               try clear hf9
               try clear c10
               try clear hx10
               try clear hf10
               try clear c11
               try clear p11
               try clear q11
               try clear hx11
               try clear hf11
               try clear c12
               try clear c13
               try clear c15
               try clear c16
               try clear c16b0
               try clear c16b1
               try clear c17
               try clear c24
               try clear c25
               try clear c30
               try clear c31
               try clear c32
               try clear c37
               try clear c38
               try clear c39
               try clear c40
               try clear c44
               try clear c46
               try clear c48
               try clear c49
               try clear c50
               try clear c51
               try clear c53
               try clear c54
               try clear c55
               try clear c58
               try clear c59
               try clear c63
               try clear p64
               try clear c67
               try clear c68
               try clear c69
               try clear c70
               try clear c72
               try clear c73
               try clear c74
               try clear c77
               try clear c78
               try clear c82
               try clear c83
               try clear c84
               try clear c85
               try clear c87
               try clear c88
               try clear c89
               try clear c92
               try clear c93
               try clear c93b0
               try clear c94
               try clear c94b0
               try clear c95
               try clear p95
               try clear q95
               try clear hx95
               try clear hf95
               try clear c96
               try clear c97
               try clear c98
               try clear c99
               try clear c102
               try clear hx102
               try clear hf102
               try clear c104
               try clear c105
               try clear c106
               try clear c107
               try clear c110
               try clear c110b0
               try clear c111
               try clear c111b0
               try clear c112
               try clear p112
               try clear q112
               try clear hx112
               try clear hf112
               try clear c113
               try clear c114
               try clear c115
               try clear c116
               try clear c119
               try clear hx119
               try clear hf119
               try clear c121
               try clear c122
               try clear c123
               try clear c124
               try clear hcz100_0
               try clear hcz100_1
               try clear hcz100_2
               try clear hcz100_3
               try clear hcz100_4
               try clear hcz108_0
               try clear hcz108_1
               try clear hcz108_2
               try clear hcz108_3
               try clear hcz108_4
               try clear hcz117_0
               try clear hcz117_1
               try clear hcz117_2
               try clear hcz117_3
               try clear hcz117_4
               try clear hcz11_0
               try clear hcz11_1
               try clear hcz11_2
               try clear hcz11_3
               try clear hcz11_4
               try clear hcz125_0
               try clear hcz125_1
               try clear hcz125_2
               try clear hcz125_3
               try clear hcz125_4
               try clear hcz13_0
               try clear hcz13_1
               try clear hcz13_2
               try clear hcz13_3
               try clear hcz13_4
               try clear hcz26_0
               try clear hcz26_1
               try clear hcz26_2
               try clear hcz26_3
               try clear hcz26_4
               try clear hcz33_0
               try clear hcz33_1
               try clear hcz33_2
               try clear hcz33_3
               try clear hcz33_4
               try clear hcz41_0
               try clear hcz41_1
               try clear hcz41_2
               try clear hcz41_3
               try clear hcz41_4
               try clear hcz52_0
               try clear hcz52_1
               try clear hcz52_2
               try clear hcz52_3
               try clear hcz52_4
               try clear hcz56_0
               try clear hcz56_1
               try clear hcz56_2
               try clear hcz56_3
               try clear hcz56_4
               try clear hcz60_0
               try clear hcz60_1
               try clear hcz60_2
               try clear hcz60_3
               try clear hcz60_4
               try clear hcz61_0
               try clear hcz61_1
               try clear hcz61_2
               try clear hcz61_3
               try clear hcz61_4
               try clear hcz64_0
               try clear hcz64_1
               try clear hcz64_2
               try clear hcz64_3
               try clear hcz64_4
               try clear hcz65_0
               try clear hcz65_1
               try clear hcz65_2
               try clear hcz65_3
               try clear hcz65_4
               try clear hcz71_0
               try clear hcz71_1
               try clear hcz71_2
               try clear hcz71_3
               try clear hcz71_4
               try clear hcz75_0
               try clear hcz75_1
               try clear hcz75_2
               try clear hcz75_3
               try clear hcz75_4
               try clear hcz79_0
               try clear hcz79_1
               try clear hcz79_2
               try clear hcz79_3
               try clear hcz79_4
               try clear hcz80_0
               try clear hcz80_1
               try clear hcz80_2
               try clear hcz80_3
               try clear hcz80_4
               try clear hcz86_0
               try clear hcz86_1
               try clear hcz86_2
               try clear hcz86_3
               try clear hcz86_4
               try clear hcz90_0
               try clear hcz90_1
               try clear hcz90_2
               try clear hcz90_3
               try clear hcz90_4
               try clear hfz100_0
               try clear hfz100_1
               try clear hfz100_2
               try clear hfz100_3
               try clear hfz100_4
               try clear hfz108_0
               try clear hfz108_1
               try clear hfz108_2
               try clear hfz108_3
               try clear hfz108_4
               try clear hfz117_0
               try clear hfz117_1
               try clear hfz117_2
               try clear hfz117_3
               try clear hfz117_4
               try clear hfz11_0
               try clear hfz11_1
               try clear hfz11_2
               try clear hfz11_3
               try clear hfz11_4
               try clear hfz125_0
               try clear hfz125_1
               try clear hfz125_2
               try clear hfz125_3
               try clear hfz125_4
               try clear hfz13_0
               try clear hfz13_1
               try clear hfz13_2
               try clear hfz13_3
               try clear hfz13_4
               try clear hfz26_0
               try clear hfz26_1
               try clear hfz26_2
               try clear hfz26_3
               try clear hfz26_4
               try clear hfz33_0
               try clear hfz33_1
               try clear hfz33_2
               try clear hfz33_3
               try clear hfz33_4
               try clear hfz41_0
               try clear hfz41_1
               try clear hfz41_2
               try clear hfz41_3
               try clear hfz41_4
               try clear hfz52_0
               try clear hfz52_1
               try clear hfz52_2
               try clear hfz52_3
               try clear hfz52_4
               try clear hfz56_0
               try clear hfz56_1
               try clear hfz56_2
               try clear hfz56_3
               try clear hfz56_4
               try clear hfz60_0
               try clear hfz60_1
               try clear hfz60_2
               try clear hfz60_3
               try clear hfz60_4
               try clear hfz61_0
               try clear hfz61_1
               try clear hfz61_2
               try clear hfz61_3
               try clear hfz61_4
               try clear hfz64_0
               try clear hfz64_1
               try clear hfz64_2
               try clear hfz64_3
               try clear hfz64_4
               try clear hfz65_0
               try clear hfz65_1
               try clear hfz65_2
               try clear hfz65_3
               try clear hfz65_4
               try clear hfz71_0
               try clear hfz71_1
               try clear hfz71_2
               try clear hfz71_3
               try clear hfz71_4
               try clear hfz75_0
               try clear hfz75_1
               try clear hfz75_2
               try clear hfz75_3
               try clear hfz75_4
               try clear hfz79_0
               try clear hfz79_1
               try clear hfz79_2
               try clear hfz79_3
               try clear hfz79_4
               try clear hfz80_0
               try clear hfz80_1
               try clear hfz80_2
               try clear hfz80_3
               try clear hfz80_4
               try clear hfz86_0
               try clear hfz86_1
               try clear hfz86_2
               try clear hfz86_3
               try clear hfz86_4
               try clear hfz90_0
               try clear hfz90_1
               try clear hfz90_2
               try clear hfz90_3
               try clear hfz90_4
               try clear hx102_0
               try clear hx102_1
               try clear hx112_0
               try clear hx112_1
               try clear hx119_0
               try clear hx119_1
               try clear hx95_0
               try clear hx95_1
               try clear p112
               try clear p2
               try clear p6
               try clear p64
               try clear p9
               try clear p95
               try clear q112
               try clear q9
               try clear q95
               obtain ⟨x17_5, x474004_5, x492004_5, u474004, u492004, rfl, HA, HK5, HO_474004, HO_483004, HO_492004, BK458, BK459, BK473, BK482, BK491, HB⟩ := hrel
               cases gk with
               | zero => exact absurd HA.out (by simp [cofferlaw13_VersionApart.l2])
               | succ k5 =>
                have H := HA.out
                clear HA
                simp only [cofferlaw13_VersionApart.l2] at H
                by_cases c127 : x17_5 < 10
                ·rw [if_pos c127] at H
                 have c127b0 : decide (x17_5 < 10) = true := decide_eq_true c127
                 clear c127
                 by_cases c128 : x474004_5.length < 4398046511104
                 ·rw [if_pos c128] at H
                  have LMc128 := Aside0.mk c128
                  clear c128
                  obtain ⟨y497, hy497⟩ : ∃ y_ : List (S31), y_ = (x474004_5 ++ [(⟨(⟨#[120]⟩ : ByteArray), (⟨#[]⟩ : ByteArray)⟩ : S31)]) := ⟨_, rfl⟩
                  replace H : (if x492004_5.length < 4398046511104 then (cofferlaw13_VersionApart.l2 k5 t460 (wrap64 (x17_5 + 1)) a0_0 a0_1 a0_2 a0_3 l0_4 a1_0 a1_1 a1_2 a1_3 l1_4 t465 t466 t467 t468 y497 t474 t475 t476 t477 x483004_4 t483 t484 t485 t486 (x492004_5 ++ [(⟨(⟨#[122]⟩ : ByteArray), (⟨#[]⟩ : ByteArray)⟩ : S31)])) else (none)) = some r := by first | (rw [hy497]; with_reducible exact H) | (have H2_ := (Option.bind_some _ _).symm.trans H; rw [hy497]; with_reducible exact H2_) | (have H2_ := (Option.bind_some _ _).symm.trans H; with_reducible exact H2_) | with_reducible exact H | (rw [hy497]; exact H) | exact H
                  have Ny497 := Aside0.mk hy497
                  clear hy497
                  by_cases c129 : x492004_5.length < 4398046511104
                  ·rw [if_pos c129] at H
                   have LMc129 := Aside0.mk c129
                   clear c129
                   obtain ⟨y500, hy500⟩ : ∃ y_ : List (S31), y_ = (x492004_5 ++ [(⟨(⟨#[122]⟩ : ByteArray), (⟨#[]⟩ : ByteArray)⟩ : S31)]) := ⟨_, rfl⟩
                   replace H : (cofferlaw13_VersionApart.l2 k5 t460 (wrap64 (x17_5 + 1)) a0_0 a0_1 a0_2 a0_3 l0_4 a1_0 a1_1 a1_2 a1_3 l1_4 t465 t466 t467 t468 y497 t474 t475 t476 t477 x483004_4 t483 t484 t485 t486 y500) = some r := by first | (rw [hy500]; with_reducible exact H) | (have H2_ := (Option.bind_some _ _).symm.trans H; rw [hy500]; with_reducible exact H2_) | (have H2_ := (Option.bind_some _ _).symm.trans H; with_reducible exact H2_) | with_reducible exact H | (rw [hy500]; exact H) | exact H
                   have Ny500 := Aside0.mk hy500
                   clear hy500
                   have H' := Aside0.mk H
                   clear H
                   have hnb130 := NB473_458.out
                   have hnc130 := NB458_473.out
                   have hnb131 := NB473_459.out
                   have hnc131 := NB459_473.out
                   have hnb132 := NB473_482.out
                   have hnc132 := NB482_473.out
                   have hnb133 := NB473_491.out
                   have hnc133 := NB491_473.out
                   have hcz134_0 : wr.cell? ⟨gb473, 0, none⟩ = some (.string t465) := (blk_cell BK473.out 0).trans rfl
                   have hcz134_1 : wr.cell? ⟨gb473, 1, none⟩ = some (.int .i64 t466) := (blk_cell BK473.out 1).trans rfl
                   have hcz134_2 : wr.cell? ⟨gb473, 2, none⟩ = some (.bool t467) := (blk_cell BK473.out 2).trans rfl
                   have hcz134_3 : wr.cell? ⟨gb473, 3, none⟩ = some (.string t468) := (blk_cell BK473.out 3).trans rfl
                   have hcz134_4 : wr.cell? ⟨gb473, 4, none⟩ = some (u474004) := (blk_cell BK473.out 4).trans rfl
                   have hfz134_0 := blk_frozen BK473.out 0
                   have hfz134_1 := blk_frozen BK473.out 1
                   have hfz134_2 := blk_frozen BK473.out 2
                   have hfz134_3 := blk_frozen BK473.out 3
                   have hfz134_4 := blk_frozen BK473.out 4
                   go_wp2_with (first | ((with_reducible refine gate_builtin (b := .append) (xs := #[.tmp 100, .tmp 102]) rfl ?_); (try (refine gate_guard (by rfl) ?_; dsimp only)); at_builtin; refine Kd.R_append k31 (w0 := w) w.heap.size rfl (.tmp 100) (.tmp 102) 22 31 (.agg #[(.string ⟨#[]⟩), (.string ⟨#[]⟩)]) 32 rfl Try.underlying22 info31 rfl (by decide) (by omega) u474004 x474004_5 (⟨(⟨#[120]⟩ : ByteArray), (⟨#[]⟩ : ByteArray)⟩ : S31) [.string (⟨#[120]⟩ : ByteArray), .string (⟨#[]⟩ : ByteArray)] (fun k_ => some k_ ≠ (u483004 : Value).ownBlock ∧ some k_ ≠ (u492004 : Value).ownBlock) (fun _ => False) rfl rfl ?aP (fun _ hk => hk.elim) ?aF ?aO ?aB ?aS ?aL ?_; (case aP => exact k31_mkM _ _ _ (⟨(⟨#[120]⟩ : ByteArray), (⟨#[]⟩ : ByteArray)⟩ : S31)); (case aB => exact (by repeat (first | (with_reducible first | exact HB.out | apply below_alloc | apply pw_below_drewN | apply below_drew1 | refine below_set ?_ GE458.out | refine below_set ?_ GE459.out | refine below_set ?_ GE473.out | refine below_set ?_ GE482.out | refine below_set ?_ GE491.out) | exact HB.out))); (case aF => exact (fun k_ hk => ⟨Kd.fresh' (Kd.R_lt (by (with_reducible repeat (first | apply Kd.R_alloc | apply Kd.R_drewN | apply Kd.R_drew)); exact HO_483004.out)) k_ hk, Kd.fresh' (Kd.R_lt (by (with_reducible repeat (first | apply Kd.R_alloc | apply Kd.R_drewN | apply Kd.R_drew)); exact HO_492004.out)) k_ hk⟩)); (case aO => exact (by (with_reducible repeat (first | apply Kd.R_alloc | apply Kd.R_drewN | apply Kd.R_drew)); exact HO_474004.out)); (case aS => exact (below_size (by repeat (first | (with_reducible first | exact HB.out | apply below_alloc | apply pw_below_drewN | apply below_drew1 | refine below_set ?_ GE458.out | refine below_set ?_ GE459.out | refine below_set ?_ GE473.out | refine below_set ?_ GE482.out | refine below_set ?_ GE491.out) | exact HB.out)))); (case aL => have := LMc128.out; omega); intro v498 w135 ho hb hg hat; rw [← Ny497.out] at ho; have n0_ := Aside0.mk (Kd.R_after (ok := (fun k_ => some k_ ≠ (u492004 : Value).ownBlock)) (by (with_reducible repeat (first | apply Kd.R_alloc | apply Kd.R_drewN | apply Kd.R_drew)); exact Kd.R_mono HO_483004.out (fun _ hk => ⟨hk.2, hk.1⟩)) hg hat); have n1_ := Aside0.mk (Kd.R_after (ok := (fun k_ => some k_ ≠ (u483004 : Value).ownBlock)) (by (with_reducible repeat (first | apply Kd.R_alloc | apply Kd.R_drewN | apply Kd.R_drew)); exact Kd.R_mono HO_492004.out (fun _ hk => ⟨hk.2, hk.1⟩)) hg hat); have n2_ := Aside0.mk (blk_grown (g := gb458) (o := .cells #[.string a0_0, .int .i64 a0_1, .bool a0_2, .string a0_3, .slice A0_4 l0_4.length c0_4] 24 (0, 0)) (by (with_reducible repeat (first | refine blk_drewN ?_ _ | refine blk_drew ?_ | refine blk_alloc ?_ _)); exact BK458.out) hg (Kd.R_ne HO_474004.out BK458.out (by decide))); have n3_ := Aside0.mk (blk_grown (g := gb459) (o := .cells #[.string a1_0, .int .i64 a1_1, .bool a1_2, .string a1_3, .slice A1_4 l1_4.length c1_4] 24 (0, 0)) (by (with_reducible repeat (first | refine blk_drewN ?_ _ | refine blk_drew ?_ | refine blk_alloc ?_ _)); exact BK459.out) hg (Kd.R_ne HO_474004.out BK459.out (by decide))); have n4_ := Aside0.mk (blk_grown (g := gb473) (o := .cells #[.string t465, .int .i64 t466, .bool t467, .string t468, u474004] 24 (0, 0)) (by (with_reducible repeat (first | refine blk_drewN ?_ _ | refine blk_drew ?_ | refine blk_alloc ?_ _)); exact BK473.out) hg (Kd.R_ne HO_474004.out BK473.out (by decide))); have n5_ := Aside0.mk (blk_grown (g := gb482) (o := .cells #[.string t474, .int .i64 t475, .bool t476, .string t477, u483004] 24 (0, 0)) (by (with_reducible repeat (first | refine blk_drewN ?_ _ | refine blk_drew ?_ | refine blk_alloc ?_ _)); exact BK482.out) hg (Kd.R_ne HO_474004.out BK482.out (by decide))); have n6_ := Aside0.mk (blk_grown (g := gb491) (o := .cells #[.string t483, .int .i64 t484, .bool t485, .string t486, u492004] 24 (0, 0)) (by (with_reducible repeat (first | refine blk_drewN ?_ _ | refine blk_drew ?_ | refine blk_alloc ?_ _)); exact BK491.out) hg (Kd.R_ne HO_474004.out BK491.out (by decide))); have n7_ := Aside0.mk (hb); have n8_ := Aside0.mk (ho); clear HO_483004; clear HO_492004; clear BK458; clear BK459; clear BK473; clear BK482; clear BK491; clear HB; clear HO_474004; have HO_483004 := n0_; have HO_492004 := n1_; have BK458 := n2_; have BK459 := n3_; have BK473 := n4_; have BK482 := n5_; have BK491 := n6_; have HB := n7_; have HO499 := n8_; clear n0_ n1_ n2_ n3_ n4_ n5_ n6_ n7_ n8_; clear ho hb hg hat; obtain ⟨Ao136, co136, eo136⟩ := Kd.R_slice HO499.out; subst eo136; have hcz137_0 : w135.cell? ⟨gb473, 0, none⟩ = some (.string t465) := (blk_cell BK473.out 0).trans rfl; have hcz137_1 : w135.cell? ⟨gb473, 1, none⟩ = some (.int .i64 t466) := (blk_cell BK473.out 1).trans rfl; have hcz137_2 : w135.cell? ⟨gb473, 2, none⟩ = some (.bool t467) := (blk_cell BK473.out 2).trans rfl; have hcz137_3 : w135.cell? ⟨gb473, 3, none⟩ = some (.string t468) := (blk_cell BK473.out 3).trans rfl; have hcz137_4 : w135.cell? ⟨gb473, 4, none⟩ = some (u474004) := (blk_cell BK473.out 4).trans rfl; have hfz137_0 := blk_frozen BK473.out 0; have hfz137_1 := blk_frozen BK473.out 1; have hfz137_2 := blk_frozen BK473.out 2; have hfz137_3 := blk_frozen BK473.out 3; have hfz137_4 := blk_frozen BK473.out 4; have hnb138 := NB491_458.out; have hnc138 := NB458_491.out; have hnb139 := NB491_459.out; have hnc139 := NB459_491.out; have hnb140 := NB491_482.out; have hnc140 := NB482_491.out; have hcz141_0 : w135.cell? ⟨gb491, 0, none⟩ = some (.string t483) := (blk_cell BK491.out 0).trans rfl; have hcz141_1 : w135.cell? ⟨gb491, 1, none⟩ = some (.int .i64 t484) := (blk_cell BK491.out 1).trans rfl; have hcz141_2 : w135.cell? ⟨gb491, 2, none⟩ = some (.bool t485) := (blk_cell BK491.out 2).trans rfl; have hcz141_3 : w135.cell? ⟨gb491, 3, none⟩ = some (.string t486) := (blk_cell BK491.out 3).trans rfl; have hcz141_4 : w135.cell? ⟨gb491, 4, none⟩ = some (u492004) := (blk_cell BK491.out 4).trans rfl; have hfz141_0 := blk_frozen BK491.out 0; have hfz141_1 := blk_frozen BK491.out 1; have hfz141_2 := blk_frozen BK491.out 2; have hfz141_3 := blk_frozen BK491.out 3; have hfz141_4 := blk_frozen BK491.out 4) | ((with_reducible refine gate_builtin (b := .append) (xs := #[.tmp 106, .tmp 108]) rfl ?_); (try (refine gate_guard (by rfl) ?_; dsimp only)); at_builtin; refine Kd.R_append k31 (w0 := w) w.heap.size rfl (.tmp 106) (.tmp 108) 22 31 (.agg #[(.string ⟨#[]⟩), (.string ⟨#[]⟩)]) 32 rfl Try.underlying22 info31 rfl (by decide) (by omega) u492004 x492004_5 (⟨(⟨#[122]⟩ : ByteArray), (⟨#[]⟩ : ByteArray)⟩ : S31) [.string (⟨#[122]⟩ : ByteArray), .string (⟨#[]⟩ : ByteArray)] (fun k_ => some k_ ≠ (u483004 : Value).ownBlock ∧ some k_ ≠ (.slice Ao136 y497.length co136 : Value).ownBlock) (fun _ => False) rfl (by first | (go_simp; done) | (go_simp; rfl)) ?aP (fun _ hk => hk.elim) ?aF ?aO ?aB ?aS ?aL ?_; (case aP => exact k31_mkM _ _ _ (⟨(⟨#[122]⟩ : ByteArray), (⟨#[]⟩ : ByteArray)⟩ : S31)); (case aB => exact (by repeat (first | (with_reducible first | exact HB.out | apply below_alloc | apply pw_below_drewN | apply below_drew1 | refine below_set ?_ GE458.out | refine below_set ?_ GE459.out | refine below_set ?_ GE473.out | refine below_set ?_ GE482.out | refine below_set ?_ GE491.out) | exact HB.out))); (case aF => exact (fun k_ hk => ⟨Kd.fresh' (Kd.R_lt (by (with_reducible repeat (first | apply Kd.R_alloc | apply Kd.R_drewN | apply Kd.R_drew)); exact (Kd.R_mono (Kd.R_far (p := ⟨gb473, 4, none⟩) (Kd.R_types HO_483004.out BK473.out (by decide)) (fun _ hk => hk.2) (.slice Ao136 y497.length co136)) (fun _ h_ => h_.1)))) k_ hk, Kd.fresh' (Kd.R_lt (by (with_reducible repeat (first | apply Kd.R_alloc | apply Kd.R_drewN | apply Kd.R_drew)); exact (Kd.R_mono (Kd.R_far (p := ⟨gb473, 4, none⟩) (Kd.R_types HO499.out BK473.out (by decide)) (fun _ hk => hk.2) (.slice Ao136 y497.length co136)) (fun _ h_ => h_.1)))) k_ hk⟩)); (case aO => exact (by (with_reducible repeat (first | apply Kd.R_alloc | apply Kd.R_drewN | apply Kd.R_drew)); exact Kd.R_mono (Kd.R_far (p := ⟨gb473, 4, none⟩) (Kd.R_types HO_492004.out BK473.out (by decide)) (fun _ hk => hk.2) (.slice Ao136 y497.length co136)) (fun _ hk => ⟨hk.1.1, hk.1.2⟩))); (case aS => exact (below_size (by repeat (first | (with_reducible first | exact HB.out | apply below_alloc | apply pw_below_drewN | apply below_drew1 | refine below_set ?_ GE458.out | refine below_set ?_ GE459.out | refine below_set ?_ GE473.out | refine below_set ?_ GE482.out | refine below_set ?_ GE491.out) | exact HB.out)))); (case aL => have := LMc129.out; omega); intro v501 w142 ho hb hg hat; rw [← Ny500.out] at ho; have n0_ := Aside0.mk (Kd.R_after (ok := (fun k_ => some k_ ≠ (.slice Ao136 y497.length co136 : Value).ownBlock)) (by (with_reducible repeat (first | apply Kd.R_alloc | apply Kd.R_drewN | apply Kd.R_drew)); exact Kd.R_mono (Kd.R_far (p := ⟨gb473, 4, none⟩) (Kd.R_types HO_483004.out BK473.out (by decide)) (fun _ hk => hk.2) (.slice Ao136 y497.length co136)) (fun _ hk => ⟨hk.1.2, hk.1.1⟩)) hg hat); have n1_ := Aside0.mk (blk_grown (g := gb458) (o := .cells #[.string a0_0, .int .i64 a0_1, .bool a0_2, .string a0_3, .slice A0_4 l0_4.length c0_4] 24 (0, 0)) (by (with_reducible repeat (first | refine blk_drewN ?_ _ | refine blk_drew ?_ | refine blk_alloc ?_ _)); refine blk_far ?_ NB458_473.out _; (with_reducible repeat (first | refine blk_drewN ?_ _ | refine blk_drew ?_ | refine blk_alloc ?_ _)); exact BK458.out) hg (Kd.R_ne HO_492004.out BK458.out (by decide))); have n2_ := Aside0.mk (blk_grown (g := gb459) (o := .cells #[.string a1_0, .int .i64 a1_1, .bool a1_2, .string a1_3, .slice A1_4 l1_4.length c1_4] 24 (0, 0)) (by (with_reducible repeat (first | refine blk_drewN ?_ _ | refine blk_drew ?_ | refine blk_alloc ?_ _)); refine blk_far ?_ NB459_473.out _; (with_reducible repeat (first | refine blk_drewN ?_ _ | refine blk_drew ?_ | refine blk_alloc ?_ _)); exact BK459.out) hg (Kd.R_ne HO_492004.out BK459.out (by decide))); have n3_ := Aside0.mk (blk_grown (g := gb473) (o := .cells #[.string t465, .int .i64 t466, .bool t467, .string t468, .slice Ao136 y497.length co136] 24 (0, 0)) (by (with_reducible repeat (first | refine blk_drewN ?_ _ | refine blk_drew ?_ | refine blk_alloc ?_ _)); refine blk_put (cs := #[.string t465, .int .i64 t466, .bool t467, .string t468, u474004]) ?_ 4 _ rfl; (with_reducible repeat (first | refine blk_drewN ?_ _ | refine blk_drew ?_ | refine blk_alloc ?_ _)); exact BK473.out) hg (Kd.R_ne HO_492004.out BK473.out (by decide))); have n4_ := Aside0.mk (blk_grown (g := gb482) (o := .cells #[.string t474, .int .i64 t475, .bool t476, .string t477, u483004] 24 (0, 0)) (by (with_reducible repeat (first | refine blk_drewN ?_ _ | refine blk_drew ?_ | refine blk_alloc ?_ _)); refine blk_far ?_ NB482_473.out _; (with_reducible repeat (first | refine blk_drewN ?_ _ | refine blk_drew ?_ | refine blk_alloc ?_ _)); exact BK482.out) hg (Kd.R_ne HO_492004.out BK482.out (by decide))); have n5_ := Aside0.mk (blk_grown (g := gb491) (o := .cells #[.string t483, .int .i64 t484, .bool t485, .string t486, u492004] 24 (0, 0)) (by (with_reducible repeat (first | refine blk_drewN ?_ _ | refine blk_drew ?_ | refine blk_alloc ?_ _)); refine blk_far ?_ NB491_473.out _; (with_reducible repeat (first | refine blk_drewN ?_ _ | refine blk_drew ?_ | refine blk_alloc ?_ _)); exact BK491.out) hg (Kd.R_ne HO_492004.out BK491.out (by decide))); have n6_ := Aside0.mk (Kd.R_after (ok := (fun k_ => some k_ ≠ (u483004 : Value).ownBlock)) (by (with_reducible repeat (first | apply Kd.R_alloc | apply Kd.R_drewN | apply Kd.R_drew)); exact Kd.R_mono (Kd.R_far (p := ⟨gb473, 4, none⟩) (Kd.R_types HO499.out BK473.out (by decide)) (fun _ hk => hk.2) (.slice Ao136 y497.length co136)) (fun _ hk => ⟨hk.1.1, hk.1.2⟩)) hg hat); have n7_ := Aside0.mk (hb); have n8_ := Aside0.mk (ho); clear HO_483004; clear BK458; clear BK459; clear BK473; clear BK482; clear BK491; clear HO499; clear HB; clear HO_492004; have HO_483004 := n0_; have BK458 := n1_; have BK459 := n2_; have BK473 := n3_; have BK482 := n4_; have BK491 := n5_; have HO499 := n6_; have HB := n7_; have HO502 := n8_; clear n0_ n1_ n2_ n3_ n4_ n5_ n6_ n7_ n8_; clear ho hb hg hat; obtain ⟨Ao143, co143, eo143⟩ := Kd.R_slice HO502.out; subst eo143; have hcz144_0 : w142.cell? ⟨gb491, 0, none⟩ = some (.string t483) := (blk_cell BK491.out 0).trans rfl; have hcz144_1 : w142.cell? ⟨gb491, 1, none⟩ = some (.int .i64 t484) := (blk_cell BK491.out 1).trans rfl; have hcz144_2 : w142.cell? ⟨gb491, 2, none⟩ = some (.bool t485) := (blk_cell BK491.out 2).trans rfl; have hcz144_3 : w142.cell? ⟨gb491, 3, none⟩ = some (.string t486) := (blk_cell BK491.out 3).trans rfl; have hcz144_4 : w142.cell? ⟨gb491, 4, none⟩ = some (u492004) := (blk_cell BK491.out 4).trans rfl; have hfz144_0 := blk_frozen BK491.out 0; have hfz144_1 := blk_frozen BK491.out 1; have hfz144_2 := blk_frozen BK491.out 2; have hfz144_3 := blk_frozen BK491.out 3; have hfz144_4 := blk_frozen BK491.out 4))
                   go_roundg k5
                   case measure => have := HJ6.out; have := HJ20.out; have := HK3.out; have := HK4.out; have := HK5.out; omega
                   case rel => exact ⟨(wrap64 (x17_5 + 1)), (y497), (y500), (.slice Ao136 y497.length co136), (.slice Ao143 y500.length co143), (by first | rfl | (simp; done) | (simp [Go.Proofs.Ytdhkcklgnnilfaa.Z.bne_nil, Go.Proofs.Ytdhkcklgnnilfaa.Z.beq_nil]; done) | (simp [*]; done)), H', ⟨by have := HJ6.out; have := HJ20.out; have := HK3.out; have := HK4.out; have := HK5.out; omega⟩, ⟨by (with_reducible repeat (first | apply Kd.R_alloc | apply Kd.R_drewN | apply Kd.R_drew)); exact Kd.R_mono (Kd.R_far (p := ⟨gb491, 4, none⟩) (Kd.R_types HO499.out BK491.out (by decide)) (fun _ hk => hk.2) (.slice Ao143 y500.length co143)) (fun _ hk => ⟨hk.1.1, hk.1.2⟩)⟩, ⟨by (with_reducible repeat (first | apply Kd.R_alloc | apply Kd.R_drewN | apply Kd.R_drew)); exact Kd.R_mono (Kd.R_far (p := ⟨gb491, 4, none⟩) (Kd.R_types HO_483004.out BK491.out (by decide)) (fun _ hk => hk.2) (.slice Ao143 y500.length co143)) (fun _ hk => ⟨hk.1.1, hk.1.2⟩)⟩, ⟨by (with_reducible repeat (first | apply Kd.R_alloc | apply Kd.R_drewN | apply Kd.R_drew)); exact Kd.R_mono (Kd.R_far (p := ⟨gb491, 4, none⟩) (Kd.R_types HO502.out BK491.out (by decide)) (fun _ hk => hk.2) (.slice Ao143 y500.length co143)) (fun _ hk => ⟨hk.1.2, hk.1.1⟩)⟩, ⟨by (with_reducible repeat (first | refine blk_drewN ?_ _ | refine blk_drew ?_ | refine blk_alloc ?_ _)); refine blk_far ?_ NB458_491.out _; (with_reducible repeat (first | refine blk_drewN ?_ _ | refine blk_drew ?_ | refine blk_alloc ?_ _)); exact BK458.out⟩, ⟨by (with_reducible repeat (first | refine blk_drewN ?_ _ | refine blk_drew ?_ | refine blk_alloc ?_ _)); refine blk_far ?_ NB459_491.out _; (with_reducible repeat (first | refine blk_drewN ?_ _ | refine blk_drew ?_ | refine blk_alloc ?_ _)); exact BK459.out⟩, ⟨by (with_reducible repeat (first | refine blk_drewN ?_ _ | refine blk_drew ?_ | refine blk_alloc ?_ _)); refine blk_far ?_ NB473_491.out _; (with_reducible repeat (first | refine blk_drewN ?_ _ | refine blk_drew ?_ | refine blk_alloc ?_ _)); exact BK473.out⟩, ⟨by (with_reducible repeat (first | refine blk_drewN ?_ _ | refine blk_drew ?_ | refine blk_alloc ?_ _)); refine blk_far ?_ NB482_491.out _; (with_reducible repeat (first | refine blk_drewN ?_ _ | refine blk_drew ?_ | refine blk_alloc ?_ _)); exact BK482.out⟩, ⟨by (with_reducible repeat (first | refine blk_drewN ?_ _ | refine blk_drew ?_ | refine blk_alloc ?_ _)); refine blk_put (cs := #[.string t483, .int .i64 t484, .bool t485, .string t486, u492004]) ?_ 4 _ rfl; (with_reducible repeat (first | refine blk_drewN ?_ _ | refine blk_drew ?_ | refine blk_alloc ?_ _)); exact BK491.out⟩, ⟨by repeat (first | (with_reducible first | exact HB.out | apply below_alloc | apply pw_below_drewN | apply below_drew1 | refine below_set ?_ GE458.out | refine below_set ?_ GE459.out | refine below_set ?_ GE473.out | refine below_set ?_ GE482.out | refine below_set ?_ GE491.out) | exact HB.out)⟩⟩
                  ·rw [if_neg c129] at H
                   exact absurd H (by simp)
                 ·rw [if_neg c128] at H
                  exact absurd H (by simp)
                ·rw [if_neg c127] at H
                 have c127b0 : decide (x17_5 < 10) = false := decide_eq_false c127
                 clear c127
                 have H' := Aside0.mk H
                 clear H
                 go_wp2
                 go_loopg [18] k5 (fun kq v18 w' => ∃ (x18_6 : Int), v18 = .int .i64 x18_6 ∧ Aside0 (cofferlaw13_VersionApart.l3 kq t460 x18_6 a0_0 a0_1 a0_2 a0_3 l0_4 a1_0 a1_1 a1_2 a1_3 l1_4 t465 t466 t467 t468 x474004_5 t474 t475 t476 t477 x483004_4 t483 t484 t485 t486 x492004_5 = some r) ∧ Aside0 (kq ≤ k5) ∧ Aside0 (Kd.R k31 31 w' w.heap.size (fun k_ => some k_ ≠ (u483004 : Value).ownBlock ∧ some k_ ≠ (u492004 : Value).ownBlock) u474004 x474004_5) ∧ Aside0 (Kd.R k31 31 w' w.heap.size (fun k_ => some k_ ≠ (u474004 : Value).ownBlock ∧ some k_ ≠ (u492004 : Value).ownBlock) u483004 x483004_4) ∧ Aside0 (Kd.R k31 31 w' w.heap.size (fun k_ => some k_ ≠ (u474004 : Value).ownBlock ∧ some k_ ≠ (u483004 : Value).ownBlock) u492004 x492004_5) ∧ Aside0 (w'.heap[gb458]? = some (.cells #[.string a0_0, .int .i64 a0_1, .bool a0_2, .string a0_3, (.slice A0_4 l0_4.length c0_4)] 24 (0, 0))) ∧ Aside0 (w'.heap[gb459]? = some (.cells #[.string a1_0, .int .i64 a1_1, .bool a1_2, .string a1_3, (.slice A1_4 l1_4.length c1_4)] 24 (0, 0))) ∧ Aside0 (w'.heap[gb473]? = some (.cells #[.string t465, .int .i64 t466, .bool t467, .string t468, u474004] 24 (0, 0))) ∧ Aside0 (w'.heap[gb482]? = some (.cells #[.string t474, .int .i64 t475, .bool t476, .string t477, u483004] 24 (0, 0))) ∧ Aside0 (w'.heap[gb491]? = some (.cells #[.string t483, .int .i64 t484, .bool t485, .string t486, u492004] 24 (0, 0))) ∧ Aside0 (Below w.heap.size w w'))
                 case atStart => exact ⟨(0), (by first | rfl | (simp; done) | (simp [Go.Proofs.Ytdhkcklgnnilfaa.Z.bne_nil, Go.Proofs.Ytdhkcklgnnilfaa.Z.beq_nil]; done) | (simp [*]; done)), H', ⟨Nat.le_refl _⟩, ⟨by (with_reducible repeat (first | apply Kd.R_alloc | apply Kd.R_drewN | apply Kd.R_drew)); exact HO_474004.out⟩, ⟨by (with_reducible repeat (first | apply Kd.R_alloc | apply Kd.R_drewN | apply Kd.R_drew)); exact HO_483004.out⟩, ⟨by (with_reducible repeat (first | apply Kd.R_alloc | apply Kd.R_drewN | apply Kd.R_drew)); exact HO_492004.out⟩, ⟨by (with_reducible repeat (first | refine blk_drewN ?_ _ | refine blk_drew ?_ | refine blk_alloc ?_ _)); exact BK458.out⟩, ⟨by (with_reducible repeat (first | refine blk_drewN ?_ _ | refine blk_drew ?_ | refine blk_alloc ?_ _)); exact BK459.out⟩, ⟨by (with_reducible repeat (first | refine blk_drewN ?_ _ | refine blk_drew ?_ | refine blk_alloc ?_ _)); exact BK473.out⟩, ⟨by (with_reducible repeat (first | refine blk_drewN ?_ _ | refine blk_drew ?_ | refine blk_alloc ?_ _)); exact BK482.out⟩, ⟨by (with_reducible repeat (first | refine blk_drewN ?_ _ | refine blk_drew ?_ | refine blk_alloc ?_ _)); exact BK491.out⟩, ⟨by repeat (first | (with_reducible first | exact HB.out | apply below_alloc | apply pw_below_drewN | apply below_drew1 | refine below_set ?_ GE458.out | refine below_set ?_ GE459.out | refine below_set ?_ GE473.out | refine below_set ?_ GE482.out | refine below_set ?_ GE491.out) | exact HB.out)⟩⟩
                 case round =>
                  clear H'
                  try clear c1
                  try clear p1
                  try clear q1
                  try clear hx1
                  try clear c2
                  try clear p2
                  try clear c3
                  try clear c4
                  try clear c5
                  try clear c6
                  try clear p6
                  try clear c7
                  try clear c8
                  try clear c9
                  try clear p9
                  try clear q9
                  try clear hx9
                  try clear hf9
                  try clear c10
                  try clear hx10
                  try clear hf10
                  try clear c11
                  try clear p11
                  try clear q11
                  try clear hx11
                  try clear hf11
                  try clear c12
                  try clear c13
                  try clear c14
                  try clear c15
                  try clear c16
                  try clear c16b0
                  try clear c16b1
                  try clear c17
                  try clear c24
                  try clear c25
                  try clear c30
                  try clear c31
                  try clear c32
                  try clear c37
                  try clear c38
                  try clear c39
                  try clear c40
                  try clear c44
                  try clear c46
                  try clear c48
                  try clear c49
                  try clear c50
                  try clear c51
                  try clear c53
                  try clear c54
                  try clear c55
                  try clear c58
                  try clear c59
                  try clear c63
                  try clear p64
                  try clear c67
                  try clear c68
                  try clear c69
                  try clear c70
                  try clear c72
                  try clear c73
                  try clear c74
                  try clear c77
                  try clear c78
                  try clear c82
                  try clear c83
                  try clear c84
                  try clear c85
                  try clear c87
                  try clear c88
                  try clear c89
                  try clear c92
                  try clear c93
                  try clear c93b0
                  try clear c94
                  try clear c94b0
                  try clear c95
                  try clear p95
                  try clear q95
                  try clear hx95
                  try clear hf95
                  try clear c96
                  try clear c97
                  try clear c98
                  try clear c99
                  try clear c102
                  try clear hx102
                  try clear hf102
                  try clear c104
                  try clear c105
                  try clear c106
                  try clear c107
                  try clear c110
                  try clear c110b0
                  try clear c111
                  try clear c111b0
                  try clear c112
                  try clear p112
                  try clear q112
                  try clear hx112
                  try clear hf112
                  try clear c113
                  try clear c114
                  try clear c115
                  try clear c116
                  try clear c119
                  try clear hx119
                  try clear hf119
                  try clear c121
                  try clear c122
                  try clear c123
                  try clear c124
                  try clear c127
                  try clear c127b0
                  try clear c128
                  try clear c129
                  try clear c130
                  try clear c131
                  try clear c132
                  try clear c133
                  try clear c138
                  try clear c139
                  try clear c140
                  try clear hcz100_0
                  try clear hcz100_1
                  try clear hcz100_2
                  try clear hcz100_3
                  try clear hcz100_4
                  try clear hcz108_0
                  try clear hcz108_1
                  try clear hcz108_2
                  try clear hcz108_3
                  try clear hcz108_4
                  try clear hcz117_0
                  try clear hcz117_1
                  try clear hcz117_2
                  try clear hcz117_3
                  try clear hcz117_4
                  try clear hcz11_0
                  try clear hcz11_1
                  try clear hcz11_2
                  try clear hcz11_3
                  try clear hcz11_4
                  try clear hcz125_0
                  try clear hcz125_1
                  try clear hcz125_2
                  try clear hcz125_3
                  try clear hcz125_4
                  try clear hcz134_0
                  try clear hcz134_1
                  try clear hcz134_2
                  try clear hcz134_3
                  try clear hcz134_4
                  try clear hcz137_0
                  try clear hcz137_1
                  try clear hcz137_2
                  try clear hcz137_3
                  try clear hcz137_4
                  try clear hcz13_0
                  try clear hcz13_1
                  try clear hcz13_2
                  try clear hcz13_3
                  try clear hcz13_4
                  try clear hcz141_0
                  try clear hcz141_1
                  try clear hcz141_2
                  try clear hcz141_3
                  try clear hcz141_4
                  try clear hcz144_0
                  try clear hcz144_1
                  try clear hcz144_2
                  try clear hcz144_3
                  try clear hcz144_4
                  try clear hcz26_0
                  try clear hcz26_1
                  try clear hcz26_2
                  try clear hcz26_3
                  try clear hcz26_4
                  try clear hcz33_0
                  try clear hcz33_1
                  try clear hcz33_2
                  try clear hcz33_3
                  try clear hcz33_4
                  try clear hcz41_0
                  try clear hcz41_1
                  try clear hcz41_2
                  try clear hcz41_3
                  try clear hcz41_4
                  try clear hcz52_0
                  try clear hcz52_1
                  try clear hcz52_2
                  try clear hcz52_3
                  try clear hcz52_4
                  try clear hcz56_0
                  try clear hcz56_1
                  try clear hcz56_2
                  try clear hcz56_3
                  try clear hcz56_4
                  try clear hcz60_0
                  try clear hcz60_1
                  try clear hcz60_2
                  try clear hcz60_3
                  try clear hcz60_4
                  try clear hcz61_0
                  try clear hcz61_1
                  try clear hcz61_2
                  try clear hcz61_3
                  try clear hcz61_4
                  try clear hcz64_0
                  try clear hcz64_1
                  try clear hcz64_2
                  try clear hcz64_3
                  try clear hcz64_4
                  try clear hcz65_0
                  try clear hcz65_1
                  try clear hcz65_2
                  try clear hcz65_3
                  try clear hcz65_4
                  try clear hcz71_0
                  try clear hcz71_1
                  try clear hcz71_2
                  try clear hcz71_3
                  try clear hcz71_4
                  try clear hcz75_0
                  try clear hcz75_1
                  try clear hcz75_2
                  try clear hcz75_3
                  try clear hcz75_4
                  try clear hcz79_0
                  try clear hcz79_1
                  try clear hcz79_2
                  try clear hcz79_3
                  try clear hcz79_4
                  try clear hcz80_0
                  try clear hcz80_1
                  try clear hcz80_2
                  try clear hcz80_3
                  try clear hcz80_4
                  try clear hcz86_0
                  try clear hcz86_1
                  try clear hcz86_2
                  try clear hcz86_3
                  try clear hcz86_4
                  try clear hcz90_0
                  try clear hcz90_1
                  try clear hcz90_2
                  try clear hcz90_3
                  try clear hcz90_4
                  try clear hfz100_0
                  try clear hfz100_1
                  try clear hfz100_2
                  try clear hfz100_3
                  try clear hfz100_4
                  try clear hfz108_0
                  try clear hfz108_1
                  try clear hfz108_2
                  try clear hfz108_3
                  try clear hfz108_4
                  try clear hfz117_0
                  try clear hfz117_1
                  try clear hfz117_2
                  try clear hfz117_3
                  try clear hfz117_4
                  try clear hfz11_0
                  try clear hfz11_1
                  try clear hfz11_2
                  try clear hfz11_3
                  try clear hfz11_4
                  try clear hfz125_0
                  try clear hfz125_1
                  try clear hfz125_2
                  try clear hfz125_3
                  try clear hfz125_4
                  try clear hfz134_0
                  try clear hfz134_1
                  try clear hfz134_2
                  try clear hfz134_3
                  try clear hfz134_4
                  try clear hfz137_0
                  try clear hfz137_1
                  try clear hfz137_2
                  try clear hfz137_3
                  try clear hfz137_4
                  try clear hfz13_0
                  try clear hfz13_1
                  try clear hfz13_2
                  try clear hfz13_3
                  try clear hfz13_4
                  try clear hfz141_0
                  try clear hfz141_1
                  try clear hfz141_2
                  try clear hfz141_3
                  try clear hfz141_4
                  try clear hfz144_0
                  try clear hfz144_1
                  try clear hfz144_2
                  try clear hfz144_3
                  try clear hfz144_4
                  try clear hfz26_0
                  try clear hfz26_1
                  try clear hfz26_2
                  try clear hfz26_3
                  try clear hfz26_4
                  try clear hfz33_0
                  try clear hfz33_1
                  try clear hfz33_2
                  try clear hfz33_3
                  try clear hfz33_4
                  try clear hfz41_0
                  try clear hfz41_1
                  try clear hfz41_2
                  try clear hfz41_3
                  try clear hfz41_4
                  try clear hfz52_0
                  try clear hfz52_1
                  try clear hfz52_2
                  try clear hfz52_3
                  try clear hfz52_4
                  try clear hfz56_0
                  try clear hfz56_1
                  try clear hfz56_2
                  try clear hfz56_3
                  try clear hfz56_4
                  try clear hfz60_0
                  try clear hfz60_1
                  try clear hfz60_2
                  try clear hfz60_3
                  try clear hfz60_4
                  try clear hfz61_0
                  try clear hfz61_1
                  try clear hfz61_2
                  try clear hfz61_3
                  try clear hfz61_4
                  try clear hfz64_0
                  try clear hfz64_1
                  try clear hfz64_2
                  try clear hfz64_3
                  try clear hfz64_4
                  try clear hfz65_0
                  try clear hfz65_1
                  try clear hfz65_2
                  try clear hfz65_3
                  try clear hfz65_4
                  try clear hfz71_0
                  try clear hfz71_1
                  try clear hfz71_2
                  try clear hfz71_3
                  try clear hfz71_4
                  try clear hfz75_0
                  try clear hfz75_1
                  try clear hfz75_2
                  try clear hfz75_3
                  try clear hfz75_4
                  try clear hfz79_0
                  try clear hfz79_1
                  try clear hfz79_2
                  try clear hfz79_3
                  try clear hfz79_4
                  try clear hfz80_0
                  try clear hfz80_1
                  try clear hfz80_2
                  try clear hfz80_3
                  try clear hfz80_4
                  try clear hfz86_0
                  try clear hfz86_1
                  try clear hfz86_2
                  try clear hfz86_3
                  try clear hfz86_4
                  try clear hfz90_0
                  try clear hfz90_1
                  try clear hfz90_2
                  try clear hfz90_3
                  try clear hfz90_4
                  try clear hx102_0
                  try clear hx102_1
                  try clear hx112_0
                  try clear hx112_1
                  try clear hx119_0
                  try clear hx119_1
                  try clear hx95_0
                  try clear hx95_1
                  try clear p1
                  try clear p11
                  try clear p112
                  try clear p2
                  try clear p6
                  try clear p64
                  try clear p9
                  try clear p95
                  try clear q1
                  try clear q11
                  try clear q112
                  try clear q9
                  try clear q95
                  obtain ⟨x18_6, rfl, HA, HK6, HO_474004, HO_483004, HO_492004, BK458, BK459, BK473, BK482, BK491, HB⟩ := hrel
                  cases gk with
                  | zero => exact absurd HA.out (by simp [cofferlaw13_VersionApart.l3])
                  | succ k6 =>
                   have H := HA.out
                   clear HA
                   simp only [cofferlaw13_VersionApart.l3] at H
                   by_cases c145 : x18_6 < (x474004_5.length : Int)
                   ·rw [if_pos c145] at H
                    have c145b0 : decide (x18_6 < (x474004_5.length : Int)) = true := decide_eq_true c145
                    clear c145
                    by_cases c146 : 0 ≤ x18_6
                    ·rw [if_pos c146] at H
                     have c146b0 : decide (0 ≤ x18_6) = true := decide_eq_true c146
                     clear c146
                     by_cases c147 : ((rd_T31 x474004_5 x18_6).f0).toList = ([120] : List UInt8)
                     ·rw [if_pos c147] at H
                      have c147b0 : (((rd_T31 x474004_5 x18_6).f0).toList == ([120] : List UInt8)) = true := beq_iff_eq.mpr c147
                      have c147b1 : (((rd_T31 x474004_5 x18_6).f0).toList != ([120] : List UInt8)) = false := bne_eq_false_iff_eq.mpr c147
                      clear c147
                      have H' := Aside0.mk H
                      clear H
                      have hnb148 := NB473_458.out
                      have hnc148 := NB458_473.out
                      have hnb149 := NB473_459.out
                      have hnc149 := NB459_473.out
                      have hnb150 := NB473_482.out
                      have hnc150 := NB482_473.out
                      have hnb151 := NB473_491.out
                      have hnc151 := NB491_473.out
                      have hcz152_0 : wr.cell? ⟨gb473, 0, none⟩ = some (.string t465) := (blk_cell BK473.out 0).trans rfl
                      have hcz152_1 : wr.cell? ⟨gb473, 1, none⟩ = some (.int .i64 t466) := (blk_cell BK473.out 1).trans rfl
                      have hcz152_2 : wr.cell? ⟨gb473, 2, none⟩ = some (.bool t467) := (blk_cell BK473.out 2).trans rfl
                      have hcz152_3 : wr.cell? ⟨gb473, 3, none⟩ = some (.string t468) := (blk_cell BK473.out 3).trans rfl
                      have hcz152_4 : wr.cell? ⟨gb473, 4, none⟩ = some (u474004) := (blk_cell BK473.out 4).trans rfl
                      have hfz152_0 := blk_frozen BK473.out 0
                      have hfz152_1 := blk_frozen BK473.out 1
                      have hfz152_2 := blk_frozen BK473.out 2
                      have hfz152_3 := blk_frozen BK473.out 3
                      have hfz152_4 := blk_frozen BK473.out 4
                      obtain ⟨Ao153, co153, eo153⟩ := Kd.R_slice HO_474004.out
                      subst eo153
                      have p503 : 0 ≤ (x18_6 : Int) := of_decide_eq_true (by first | (with_reducible assumption) | assumption)
                      have q503 : x18_6 < (x474004_5.length : Int) := of_decide_eq_true (by first | (with_reducible assumption) | assumption)
                      obtain ⟨ad503, e503, hx503_0, hx503_1⟩ := at_T31 (Kd.R_reads' HO_474004.out).2.2 x18_6 p503 q503
                      cases e503
                      replace p503 := eq_true p503
                      replace q503 := eq_true q503
                      go_wp2
                      go_roundg k6
                      case measure => have := HJ6.out; have := HJ20.out; have := HK3.out; have := HK4.out; have := HK5.out; have := HK6.out; omega
                      case rel => exact ⟨(wrap64 (x18_6 + 1)), (by first | rfl | (simp; done) | (simp [Go.Proofs.Ytdhkcklgnnilfaa.Z.bne_nil, Go.Proofs.Ytdhkcklgnnilfaa.Z.beq_nil]; done) | (simp [*]; done)), H', ⟨by have := HJ6.out; have := HJ20.out; have := HK3.out; have := HK4.out; have := HK5.out; have := HK6.out; omega⟩, ⟨by (with_reducible repeat (first | apply Kd.R_alloc | apply Kd.R_drewN | apply Kd.R_drew)); exact HO_474004.out⟩, ⟨by (with_reducible repeat (first | apply Kd.R_alloc | apply Kd.R_drewN | apply Kd.R_drew)); exact HO_483004.out⟩, ⟨by (with_reducible repeat (first | apply Kd.R_alloc | apply Kd.R_drewN | apply Kd.R_drew)); exact HO_492004.out⟩, ⟨by (with_reducible repeat (first | refine blk_drewN ?_ _ | refine blk_drew ?_ | refine blk_alloc ?_ _)); exact BK458.out⟩, ⟨by (with_reducible repeat (first | refine blk_drewN ?_ _ | refine blk_drew ?_ | refine blk_alloc ?_ _)); exact BK459.out⟩, ⟨by (with_reducible repeat (first | refine blk_drewN ?_ _ | refine blk_drew ?_ | refine blk_alloc ?_ _)); exact BK473.out⟩, ⟨by (with_reducible repeat (first | refine blk_drewN ?_ _ | refine blk_drew ?_ | refine blk_alloc ?_ _)); exact BK482.out⟩, ⟨by (with_reducible repeat (first | refine blk_drewN ?_ _ | refine blk_drew ?_ | refine blk_alloc ?_ _)); exact BK491.out⟩, ⟨by repeat (first | (with_reducible first | exact HB.out | apply below_alloc | apply pw_below_drewN | apply below_drew1 | refine below_set ?_ GE458.out | refine below_set ?_ GE459.out | refine below_set ?_ GE473.out | refine below_set ?_ GE482.out | refine below_set ?_ GE491.out) | exact HB.out)⟩⟩
                     ·rw [if_neg c147] at H
                      exact absurd H (by simp)
                    ·rw [if_neg c146] at H
                     exact absurd H (by simp)
                   ·rw [if_neg c145] at H
                    have c145b0 : decide (x18_6 < (x474004_5.length : Int)) = false := decide_eq_false c145
                    clear c145
                    have H' := Aside0.mk H
                    clear H
                    have hnb154 := NB473_458.out
                    have hnc154 := NB458_473.out
                    have hnb155 := NB473_459.out
                    have hnc155 := NB459_473.out
                    have hnb156 := NB473_482.out
                    have hnc156 := NB482_473.out
                    have hnb157 := NB473_491.out
                    have hnc157 := NB491_473.out
                    have hcz158_0 : wr.cell? ⟨gb473, 0, none⟩ = some (.string t465) := (blk_cell BK473.out 0).trans rfl
                    have hcz158_1 : wr.cell? ⟨gb473, 1, none⟩ = some (.int .i64 t466) := (blk_cell BK473.out 1).trans rfl
                    have hcz158_2 : wr.cell? ⟨gb473, 2, none⟩ = some (.bool t467) := (blk_cell BK473.out 2).trans rfl
                    have hcz158_3 : wr.cell? ⟨gb473, 3, none⟩ = some (.string t468) := (blk_cell BK473.out 3).trans rfl
                    have hcz158_4 : wr.cell? ⟨gb473, 4, none⟩ = some (u474004) := (blk_cell BK473.out 4).trans rfl
                    have hfz158_0 := blk_frozen BK473.out 0
                    have hfz158_1 := blk_frozen BK473.out 1
                    have hfz158_2 := blk_frozen BK473.out 2
                    have hfz158_3 := blk_frozen BK473.out 3
                    have hfz158_4 := blk_frozen BK473.out 4
                    obtain ⟨Ao159, co159, eo159⟩ := Kd.R_slice HO_474004.out
                    subst eo159
                    go_wp2
                    go_loopg [19] k6 (fun kq v19 w' => ∃ (x19_7 : Int), v19 = .int .i64 x19_7 ∧ Aside0 (cofferlaw13_VersionApart.l4 kq t460 x19_7 a0_0 a0_1 a0_2 a0_3 l0_4 a1_0 a1_1 a1_2 a1_3 l1_4 t465 t466 t467 t468 x474004_5 t474 t475 t476 t477 x483004_4 t483 t484 t485 t486 x492004_5 = some r) ∧ Aside0 (kq ≤ k6) ∧ Aside0 (Kd.R k31 31 w' w.heap.size (fun k_ => some k_ ≠ (u483004 : Value).ownBlock ∧ some k_ ≠ (u492004 : Value).ownBlock) (.slice Ao159 x474004_5.length co159) x474004_5) ∧ Aside0 (Kd.R k31 31 w' w.heap.size (fun k_ => some k_ ≠ ((.slice Ao159 x474004_5.length co159) : Value).ownBlock ∧ some k_ ≠ (u492004 : Value).ownBlock) u483004 x483004_4) ∧ Aside0 (Kd.R k31 31 w' w.heap.size (fun k_ => some k_ ≠ ((.slice Ao159 x474004_5.length co159) : Value).ownBlock ∧ some k_ ≠ (u483004 : Value).ownBlock) u492004 x492004_5) ∧ Aside0 (w'.heap[gb458]? = some (.cells #[.string a0_0, .int .i64 a0_1, .bool a0_2, .string a0_3, (.slice A0_4 l0_4.length c0_4)] 24 (0, 0))) ∧ Aside0 (w'.heap[gb459]? = some (.cells #[.string a1_0, .int .i64 a1_1, .bool a1_2, .string a1_3, (.slice A1_4 l1_4.length c1_4)] 24 (0, 0))) ∧ Aside0 (w'.heap[gb473]? = some (.cells #[.string t465, .int .i64 t466, .bool t467, .string t468, (.slice Ao159 x474004_5.length co159)] 24 (0, 0))) ∧ Aside0 (w'.heap[gb482]? = some (.cells #[.string t474, .int .i64 t475, .bool t476, .string t477, u483004] 24 (0, 0))) ∧ Aside0 (w'.heap[gb491]? = some (.cells #[.string t483, .int .i64 t484, .bool t485, .string t486, u492004] 24 (0, 0))) ∧ Aside0 (Below w.heap.size w w'))
                    case atStart => exact ⟨(0), (by first | rfl | (simp; done) | (simp [Go.Proofs.Ytdhkcklgnnilfaa.Z.bne_nil, Go.Proofs.Ytdhkcklgnnilfaa.Z.beq_nil]; done) | (simp [*]; done)), H', ⟨Nat.le_refl _⟩, ⟨by (with_reducible repeat (first | apply Kd.R_alloc | apply Kd.R_drewN | apply Kd.R_drew)); exact HO_474004.out⟩, ⟨by (with_reducible repeat (first | apply Kd.R_alloc | apply Kd.R_drewN | apply Kd.R_drew)); exact HO_483004.out⟩, ⟨by (with_reducible repeat (first | apply Kd.R_alloc | apply Kd.R_drewN | apply Kd.R_drew)); exact HO_492004.out⟩, ⟨by (with_reducible repeat (first | refine blk_drewN ?_ _ | refine blk_drew ?_ | refine blk_alloc ?_ _)); exact BK458.out⟩, ⟨by (with_reducible repeat (first | refine blk_drewN ?_ _ | refine blk_drew ?_ | refine blk_alloc ?_ _)); exact BK459.out⟩, ⟨by (with_reducible repeat (first | refine blk_drewN ?_ _ | refine blk_drew ?_ | refine blk_alloc ?_ _)); exact BK473.out⟩, ⟨by (with_reducible repeat (first | refine blk_drewN ?_ _ | refine blk_drew ?_ | refine blk_alloc ?_ _)); exact BK482.out⟩, ⟨by (with_reducible repeat (first | refine blk_drewN ?_ _ | refine blk_drew ?_ | refine blk_alloc ?_ _)); exact BK491.out⟩, ⟨by repeat (first | (with_reducible first | exact HB.out | apply below_alloc | apply pw_below_drewN | apply below_drew1 | refine below_set ?_ GE458.out | refine below_set ?_ GE459.out | refine below_set ?_ GE473.out | refine below_set ?_ GE482.out | refine below_set ?_ GE491.out) | exact HB.out)⟩⟩
                    case round =>
                     clear H'
                     try clear c1
                     try clear p1
                     try clear q1
                     try clear hx1
                     try clear c2
                     try clear p2
                     try clear c3
                     try clear c4
                     try clear c5
                     try clear p5
                     try clear q5
                     try clear hx5
                     try clear c6
                     try clear p6
                     try clear c7
                     try clear c8
                     try clear c9
                     try clear p9
                     try clear q9
                     try clear hx9
                     try clear hf9
                     try clear c10
                     try clear hx10
                     try clear hf10
                     try clear c11
                     try clear p11
                     try clear q11
                     try clear hx11
                     try clear hf11
                     try clear c12
                     try clear c13
                     try clear c14
                     try clear c15
                     try clear c16
                     try clear c16b0
                     try clear c16b1
                     try clear c17
                     try clear c24
                     try clear c25
                     try clear c30
                     try clear c31
                     try clear c32
                     try clear c37
                     try clear c38
                     try clear c39
                     try clear c40
                     try clear c44
                     try clear c46
                     try clear c48
                     try clear c49
                     try clear c50
                     try clear p50
                     try clear q50
                     try clear hx50
                     try clear c51
                     try clear c53
                     try clear c54
                     try clear c55
                     try clear c58
                     try clear c59
                     try clear c63
                     try clear p64
                     try clear c67
                     try clear c68
                     try clear c69
                     try clear c70
                     try clear c72
                     try clear c73
                     try clear c74
                     try clear c77
                     try clear c78
                     try clear c82
                     try clear c83
                     try clear c84
                     try clear c85
                     try clear c87
                     try clear c88
                     try clear c89
                     try clear c92
                     try clear c93
                     try clear c93b0
                     try clear c94
                     try clear c94b0
                     try clear c95
                     try clear p95
                     try clear q95
                     try clear hx95
                     try clear hf95
                     try clear c96
                     try clear c97
                     try clear c98
                     try clear c99
                     try clear c102
                     try clear hx102
                     try clear hf102
                     try clear c104
                     try clear c105
                     try clear c106
                     try clear c107
                     try clear c110
                     try clear c110b0
                     try clear c111
                     try clear c111b0
                     try clear c112
                     try clear p112
                     try clear q112
                     try clear hx112
                     try clear hf112
                     try clear c113
                     try clear c114
                     try clear c115
                     try clear c116
                     try clear c119
                     try clear hx119
                     try clear hf119
                     try clear c121
                     try clear c122
                     try clear c123
                     try clear c124
                     try clear c127
                     try clear c127b0
                     try clear c128
                     try clear c129
                     try clear c130
                     try clear c131
                     try clear c132
                     try clear c133
                     try clear c138
                     try clear c139
                     try clear c140
                     try clear c145
                     try clear c145b0
                     try clear c146
                     try clear c146b0
                     try clear c147
                     try clear c147b0
                     try clear c147b1
                     try clear c148
                     try clear c149
                     try clear c150
                     try clear c151
                     try clear c154
                     try clear c155
                     try clear c156
                     try clear c157
                     try clear hcz100_0
                     try clear hcz100_1
                     try clear hcz100_2
                     try clear hcz100_3
                     try clear hcz100_4
                     try clear hcz108_0
                     try clear hcz108_1
                     try clear hcz108_2
                     try clear hcz108_3
                     try clear hcz108_4
                     try clear hcz117_0
                     try clear hcz117_1
                     try clear hcz117_2
                     try clear hcz117_3
                     try clear hcz117_4
                     try clear hcz11_0
                     try clear hcz11_1
                     try clear hcz11_2
                     try clear hcz11_3
                     try clear hcz11_4
                     try clear hcz125_0
                     try clear hcz125_1
                     try clear hcz125_2
                     try clear hcz125_3
                     try clear hcz125_4
                     try clear hcz134_0
                     try clear hcz134_1
                     try clear hcz134_2
                     try clear hcz134_3
                     try clear hcz134_4
                     try clear hcz137_0
                     try clear hcz137_1
                     try clear hcz137_2
                     try clear hcz137_3
                     try clear hcz137_4
                     try clear hcz13_0
                     try clear hcz13_1
                     try clear hcz13_2
                     try clear hcz13_3
                     try clear hcz13_4
                     try clear hcz141_0
                     try clear hcz141_1
                     try clear hcz141_2
                     try clear hcz141_3
                     try clear hcz141_4
                     try clear hcz144_0
                     try clear hcz144_1
                     try clear hcz144_2
                     try clear hcz144_3
                     try clear hcz144_4
                     try clear hcz152_0
                     try clear hcz152_1
                     try clear hcz152_2
                     try clear hcz152_3
                     try clear hcz152_4
                     try clear hcz158_0
                     try clear hcz158_1
                     try clear hcz158_2
                     try clear hcz158_3
                     try clear hcz158_4
                     try clear hcz26_0
                     try clear hcz26_1
                     try clear hcz26_2
                     try clear hcz26_3
                     try clear hcz26_4
                     try clear hcz33_0
                     try clear hcz33_1
                     try clear hcz33_2
                     try clear hcz33_3
                     try clear hcz33_4
                     try clear hcz41_0
                     try clear hcz41_1
                     try clear hcz41_2
                     try clear hcz41_3
                     try clear hcz41_4
                     try clear hcz52_0
                     try clear hcz52_1
                     try clear hcz52_2
                     try clear hcz52_3
                     try clear hcz52_4
                     try clear hcz56_0
                     try clear hcz56_1
                     try clear hcz56_2
                     try clear hcz56_3
                     try clear hcz56_4
                     try clear hcz60_0
                     try clear hcz60_1
                     try clear hcz60_2
                     try clear hcz60_3
                     try clear hcz60_4
                     try clear hcz61_0
                     try clear hcz61_1
                     try clear hcz61_2
                     try clear hcz61_3
                     try clear hcz61_4
                     try clear hcz64_0
                     try clear hcz64_1
                     try clear hcz64_2
                     try clear hcz64_3
                     try clear hcz64_4
                     try clear hcz65_0
                     try clear hcz65_1
                     try clear hcz65_2
                     try clear hcz65_3
                     try clear hcz65_4
                     try clear hcz71_0
                     try clear hcz71_1
                     try clear hcz71_2
                     try clear hcz71_3
                     try clear hcz71_4
                     try clear hcz75_0
                     try clear hcz75_1
                     try clear hcz75_2
                     try clear hcz75_3
                     try clear hcz75_4
                     try clear hcz79_0
                     try clear hcz79_1
                     try clear hcz79_2
                     try clear hcz79_3
                     try clear hcz79_4
                     try clear hcz80_0
                     try clear hcz80_1
                     try clear hcz80_2
                     try clear hcz80_3
                     try clear hcz80_4
                     try clear hcz86_0
                     try clear hcz86_1
                     try clear hcz86_2
                     try clear hcz86_3
                     try clear hcz86_4
                     try clear hcz90_0
                     try clear hcz90_1
                     try clear hcz90_2
                     try clear hcz90_3
                     try clear hcz90_4
                     try clear hfz100_0
                     try clear hfz100_1
                     try clear hfz100_2
                     try clear hfz100_3
                     try clear hfz100_4
                     try clear hfz108_0
                     try clear hfz108_1
                     try clear hfz108_2
                     try clear hfz108_3
                     try clear hfz108_4
                     try clear hfz117_0
                     try clear hfz117_1
                     try clear hfz117_2
                     try clear hfz117_3
                     try clear hfz117_4
                     try clear hfz11_0
                     try clear hfz11_1
                     try clear hfz11_2
                     try clear hfz11_3
                     try clear hfz11_4
                     try clear hfz125_0
                     try clear hfz125_1
                     try clear hfz125_2
                     try clear hfz125_3
                     try clear hfz125_4
                     try clear hfz134_0
                     try clear hfz134_1
                     try clear hfz134_2
                     try clear hfz134_3
                     try clear hfz134_4
                     try clear hfz137_0
                     try clear hfz137_1
                     try clear hfz137_2
                     try clear hfz137_3
                     try clear hfz137_4
                     try clear hfz13_0
                     try clear hfz13_1
                     try clear hfz13_2
                     try clear hfz13_3
                     try clear hfz13_4
                     try clear hfz141_0
                     try clear hfz141_1
                     try clear hfz141_2
                     try clear hfz141_3
                     try clear hfz141_4
                     try clear hfz144_0
                     try clear hfz144_1
                     try clear hfz144_2
                     try clear hfz144_3
                     try clear hfz144_4
                     try clear hfz152_0
                     try clear hfz152_1
                     try clear hfz152_2
                     try clear hfz152_3
                     try clear hfz152_4
                     try clear hfz158_0
                     try clear hfz158_1
                     try clear hfz158_2
                     try clear hfz158_3
                     try clear hfz158_4
                     try clear hfz26_0
                     try clear hfz26_1
                     try clear hfz26_2
                     try clear hfz26_3
                     try clear hfz26_4
                     try clear hfz33_0
                     try clear hfz33_1
                     try clear hfz33_2
                     try clear hfz33_3
                     try clear hfz33_4
                     try clear hfz41_0
                     try clear hfz41_1
                     try clear hfz41_2
                     try clear hfz41_3
                     try clear hfz41_4
                     try clear hfz52_0
                     try clear hfz52_1
                     try clear hfz52_2
                     try clear hfz52_3
                     try clear hfz52_4
                     try clear hfz56_0
                     try clear hfz56_1
                     try clear hfz56_2
                     try clear hfz56_3
                     try clear hfz56_4
                     try clear hfz60_0
                     try clear hfz60_1
                     try clear hfz60_2
                     try clear hfz60_3
                     try clear hfz60_4
                     try clear hfz61_0
                     try clear hfz61_1
                     try clear hfz61_2
                     try clear hfz61_3
                     try clear hfz61_4
                     try clear hfz64_0
                     try clear hfz64_1
                     try clear hfz64_2
                     try clear hfz64_3
                     try clear hfz64_4
                     try clear hfz65_0
                     try clear hfz65_1
                     try clear hfz65_2
                     try clear hfz65_3
                     try clear hfz65_4
                     try clear hfz71_0
                     try clear hfz71_1
                     try clear hfz71_2
                     try clear hfz71_3
                     try clear hfz71_4
                     try clear hfz75_0
                     try clear hfz75_1
                     try clear hfz75_2
                     try clear hfz75_3
                     try clear hfz75_4
                     try clear hfz79_0
                     try clear hfz79_1
                     try clear hfz79_2
                     try clear hfz79_3
                     try clear hfz79_4
                     try clear hfz80_0
                     try clear hfz80_1
                     try clear hfz80_2
                     try clear hfz80_3
                     try clear hfz80_4
                     try clear hfz86_0
                     try clear hfz86_1
                     try clear hfz86_2
                     try clear hfz86_3
                     try clear hfz86_4
                     try clear hfz90_0
                     try clear hfz90_1
                     try clear hfz90_2
                     try clear hfz90_3
                     try clear hfz90_4
                     try clear hx102_0
                     try clear hx102_1
                     try clear hx112_0
                     try clear hx112_1
                     try clear hx119_0
                     try clear hx119_1
                     try clear hx503_0
                     try clear hx503_1
                     try clear hx95_0
                     try clear hx95_1
                     try clear p1
                     try clear p11
                     try clear p112
                     try clear p2
                     try clear p503
                     try clear p6
                     try clear p64
                     try clear p9
                     try clear p95
                     try clear q1
                     try clear q11
                     try clear q112
                     try clear q503
                     try clear q9
                     try clear q95
                     obtain ⟨x19_7, rfl, HA, HK7, HO_474004, HO_483004, HO_492004, BK458, BK459, BK473, BK482, BK491, HB⟩ := hrel
                     cases gk with
                     | zero => exact absurd HA.out (by simp [cofferlaw13_VersionApart.l4])
                     | succ k7 =>
                      have H := HA.out
                      clear HA
                      simp only [cofferlaw13_VersionApart.l4] at H
                      by_cases c160 : x19_7 < (x492004_5.length : Int)
                      ·rw [if_pos c160] at H
                       have c160b0 : decide (x19_7 < (x492004_5.length : Int)) = true := decide_eq_true c160
                       clear c160
                       by_cases c161 : 0 ≤ x19_7
                       ·rw [if_pos c161] at H
                        have c161b0 : decide (0 ≤ x19_7) = true := decide_eq_true c161
                        clear c161
                        by_cases c162 : ((rd_T31 x492004_5 x19_7).f0).toList = ([122] : List UInt8)
                        ·rw [if_pos c162] at H
                         have c162b0 : (((rd_T31 x492004_5 x19_7).f0).toList == ([122] : List UInt8)) = true := beq_iff_eq.mpr c162
                         have c162b1 : (((rd_T31 x492004_5 x19_7).f0).toList != ([122] : List UInt8)) = false := bne_eq_false_iff_eq.mpr c162
                         clear c162
                         have H' := Aside0.mk H
                         clear H
                         have hnb163 := NB491_458.out
                         have hnc163 := NB458_491.out
                         have hnb164 := NB491_459.out
                         have hnc164 := NB459_491.out
                         have hnb165 := NB491_473.out
                         have hnc165 := NB473_491.out
                         have hnb166 := NB491_482.out
                         have hnc166 := NB482_491.out
                         have hcz167_0 : wr.cell? ⟨gb491, 0, none⟩ = some (.string t483) := (blk_cell BK491.out 0).trans rfl
                         have hcz167_1 : wr.cell? ⟨gb491, 1, none⟩ = some (.int .i64 t484) := (blk_cell BK491.out 1).trans rfl
                         have hcz167_2 : wr.cell? ⟨gb491, 2, none⟩ = some (.bool t485) := (blk_cell BK491.out 2).trans rfl
                         have hcz167_3 : wr.cell? ⟨gb491, 3, none⟩ = some (.string t486) := (blk_cell BK491.out 3).trans rfl
                         have hcz167_4 : wr.cell? ⟨gb491, 4, none⟩ = some (u492004) := (blk_cell BK491.out 4).trans rfl
                         have hfz167_0 := blk_frozen BK491.out 0
                         have hfz167_1 := blk_frozen BK491.out 1
                         have hfz167_2 := blk_frozen BK491.out 2
                         have hfz167_3 := blk_frozen BK491.out 3
                         have hfz167_4 := blk_frozen BK491.out 4
                         obtain ⟨Ao168, co168, eo168⟩ := Kd.R_slice HO_492004.out
                         subst eo168
                         have p504 : 0 ≤ (x19_7 : Int) := of_decide_eq_true (by first | (with_reducible assumption) | assumption)
                         have q504 : x19_7 < (x492004_5.length : Int) := of_decide_eq_true (by first | (with_reducible assumption) | assumption)
                         obtain ⟨ad504, e504, hx504_0, hx504_1⟩ := at_T31 (Kd.R_reads' HO_492004.out).2.2 x19_7 p504 q504
                         cases e504
                         replace p504 := eq_true p504
                         replace q504 := eq_true q504
                         go_wp2
                         go_roundg k7
                         case measure => have := HJ6.out; have := HJ20.out; have := HK3.out; have := HK4.out; have := HK5.out; have := HK6.out; have := HK7.out; omega
                         case rel => exact ⟨(wrap64 (x19_7 + 1)), (by first | rfl | (simp; done) | (simp [Go.Proofs.Ytdhkcklgnnilfaa.Z.bne_nil, Go.Proofs.Ytdhkcklgnnilfaa.Z.beq_nil]; done) | (simp [*]; done)), H', ⟨by have := HJ6.out; have := HJ20.out; have := HK3.out; have := HK4.out; have := HK5.out; have := HK6.out; have := HK7.out; omega⟩, ⟨by (with_reducible repeat (first | apply Kd.R_alloc | apply Kd.R_drewN | apply Kd.R_drew)); exact HO_474004.out⟩, ⟨by (with_reducible repeat (first | apply Kd.R_alloc | apply Kd.R_drewN | apply Kd.R_drew)); exact HO_483004.out⟩, ⟨by (with_reducible repeat (first | apply Kd.R_alloc | apply Kd.R_drewN | apply Kd.R_drew)); exact HO_492004.out⟩, ⟨by (with_reducible repeat (first | refine blk_drewN ?_ _ | refine blk_drew ?_ | refine blk_alloc ?_ _)); exact BK458.out⟩, ⟨by (with_reducible repeat (first | refine blk_drewN ?_ _ | refine blk_drew ?_ | refine blk_alloc ?_ _)); exact BK459.out⟩, ⟨by (with_reducible repeat (first | refine blk_drewN ?_ _ | refine blk_drew ?_ | refine blk_alloc ?_ _)); exact BK473.out⟩, ⟨by (with_reducible repeat (first | refine blk_drewN ?_ _ | refine blk_drew ?_ | refine blk_alloc ?_ _)); exact BK482.out⟩, ⟨by (with_reducible repeat (first | refine blk_drewN ?_ _ | refine blk_drew ?_ | refine blk_alloc ?_ _)); exact BK491.out⟩, ⟨by repeat (first | (with_reducible first | exact HB.out | apply below_alloc | apply pw_below_drewN | apply below_drew1 | refine below_set ?_ GE458.out | refine below_set ?_ GE459.out | refine below_set ?_ GE473.out | refine below_set ?_ GE482.out | refine below_set ?_ GE491.out) | exact HB.out)⟩⟩
                        ·rw [if_neg c162] at H
                         exact absurd H (by simp)
                       ·rw [if_neg c161] at H
                        exact absurd H (by simp)
                      ·rw [if_neg c160] at H
                       have c160b0 : decide (x19_7 < (x492004_5.length : Int)) = false := decide_eq_false c160
                       clear c160
                       replace H := Option.bind_eq_some_iff.mp H
                       obtain ⟨⟨t505, t506, t507, t508, t509, t512⟩, A1690, H⟩ := H
                       replace H : ((cofferref13_Same.f k7 t474 t475 t476 t477 x483004_4 a0_0 a0_1 a0_2 a0_3 l0_4).bind fun t514 => (if t514 = true then ((cofferref13_Same.f k7 t505 t506 t507 t508 t509 a0_0 a0_1 a0_2 a0_3 l0_4).bind fun t515 => (if t515 = true then (if (x474004_5.length : Int) = (wrap64 ((l0_4.length : Int) + 10)) then (some ((x492004_5.length : Int) == (wrap64 ((l1_4.length : Int) + 10)))) else (none)) else (none))) else (none))) = some r := H
                       have A169 := Aside0.mk A1690
                       clear A1690
                       replace H := Option.bind_eq_some_iff.mp H
                       obtain ⟨t514, A1700, H⟩ := H
                       replace H : (if t514 = true then ((cofferref13_Same.f k7 t505 t506 t507 t508 t509 a0_0 a0_1 a0_2 a0_3 l0_4).bind fun t515 => (if t515 = true then (if (x474004_5.length : Int) = (wrap64 ((l0_4.length : Int) + 10)) then (some ((x492004_5.length : Int) == (wrap64 ((l1_4.length : Int) + 10)))) else (none)) else (none))) else (none)) = some r := H
                       have A170 := Aside0.mk A1700
                       clear A1700
                       by_cases c171 : t514 = true
                       ·subst c171
                        have H1 : ((cofferref13_Same.f k7 t505 t506 t507 t508 t509 a0_0 a0_1 a0_2 a0_3 l0_4).bind fun t515 => (if t515 = true then (if (x474004_5.length : Int) = (wrap64 ((l0_4.length : Int) + 10)) then (some ((x492004_5.length : Int) == (wrap64 ((l1_4.length : Int) + 10)))) else (none)) else (none))) = some r := by rw [if_pos rfl] at H; exact H
                        clear H
                        have H := H1
                        clear H1
                        replace H := Option.bind_eq_some_iff.mp H
                        obtain ⟨t515, A1720, H⟩ := H
                        replace H : (if t515 = true then (if (x474004_5.length : Int) = (wrap64 ((l0_4.length : Int) + 10)) then (some ((x492004_5.length : Int) == (wrap64 ((l1_4.length : Int) + 10)))) else (none)) else (none)) = some r := H
                        have A172 := Aside0.mk A1720
                        clear A1720
                        by_cases c173 : t515 = true
                        ·subst c173
                         have H1 : (if (x474004_5.length : Int) = (wrap64 ((l0_4.length : Int) + 10)) then (some ((x492004_5.length : Int) == (wrap64 ((l1_4.length : Int) + 10)))) else (none)) = some r := by rw [if_pos rfl] at H; exact H
                         clear H
                         have H := H1
                         clear H1
                         by_cases c174 : (x474004_5.length : Int) = (wrap64 ((l0_4.length : Int) + 10))
                         ·rw [if_pos c174] at H
                          have c174b0 : ((x474004_5.length : Int) == (wrap64 ((l0_4.length : Int) + 10))) = true := beq_iff_eq.mpr c174
                          have c174b1 : ((x474004_5.length : Int) != (wrap64 ((l0_4.length : Int) + 10))) = false := bne_eq_false_iff_eq.mpr c174
                          clear c174
                          obtain rfl := Option.some.inj H
                          have hnb175 := NB491_458.out
                          have hnc175 := NB458_491.out
                          have hnb176 := NB491_459.out
                          have hnc176 := NB459_491.out
                          have hnb177 := NB491_473.out
                          have hnc177 := NB473_491.out
                          have hnb178 := NB491_482.out
                          have hnc178 := NB482_491.out
                          have hcz179_0 : wr.cell? ⟨gb491, 0, none⟩ = some (.string t483) := (blk_cell BK491.out 0).trans rfl
                          have hcz179_1 : wr.cell? ⟨gb491, 1, none⟩ = some (.int .i64 t484) := (blk_cell BK491.out 1).trans rfl
                          have hcz179_2 : wr.cell? ⟨gb491, 2, none⟩ = some (.bool t485) := (blk_cell BK491.out 2).trans rfl
                          have hcz179_3 : wr.cell? ⟨gb491, 3, none⟩ = some (.string t486) := (blk_cell BK491.out 3).trans rfl
                          have hcz179_4 : wr.cell? ⟨gb491, 4, none⟩ = some (u492004) := (blk_cell BK491.out 4).trans rfl
                          have hfz179_0 := blk_frozen BK491.out 0
                          have hfz179_1 := blk_frozen BK491.out 1
                          have hfz179_2 := blk_frozen BK491.out 2
                          have hfz179_3 := blk_frozen BK491.out 3
                          have hfz179_4 := blk_frozen BK491.out 4
                          obtain ⟨Ao180, co180, eo180⟩ := Kd.R_slice HO_492004.out
                          subst eo180
                          go_wp2_with (first | ((with_reducible refine gate_callee (f := 13) rfl ?_); refine goesL_ (some 141) rfl rfl Try.func13 (by kernel_rfl) rfl #[.string t460] rfl (by (try simp only [List.map_toArray, List.map_cons, List.map_nil]); first | done | rfl | (simp only [List.length_drop, List.length_take]; rfl)) ?_; (with_reducible refine (version_Read.calls k7 t460 t505 t506 t507 t508 t509 t512 _ A169.out).mono ?_); rintro e w181 ⟨v510, rfl, ho0, hb⟩; refine ⟨_, rfl, ?_⟩; have n0_ := Aside0.mk (Kd.R_elder' (by (with_reducible repeat (first | apply Kd.R_alloc | apply Kd.R_drewN | apply Kd.R_drew)); exact HO_474004.out) (Kd.R_base ho0) hb); have n1_ := Aside0.mk (Kd.R_elder' (by (with_reducible repeat (first | apply Kd.R_alloc | apply Kd.R_drewN | apply Kd.R_drew)); exact HO_483004.out) (Kd.R_base ho0) hb); have n2_ := Aside0.mk (Kd.R_elder' (by (with_reducible repeat (first | apply Kd.R_alloc | apply Kd.R_drewN | apply Kd.R_drew)); exact HO_492004.out) (Kd.R_base ho0) hb); have n3_ := Aside0.mk (Kd.R_lower (Kd.R_new' (Kd.R_new' (Kd.R_new' ho0 (Kd.R_lt (by (with_reducible repeat (first | apply Kd.R_alloc | apply Kd.R_drewN | apply Kd.R_drew)); exact HO_474004.out))) (Kd.R_lt (by (with_reducible repeat (first | apply Kd.R_alloc | apply Kd.R_drewN | apply Kd.R_drew)); exact HO_483004.out))) (Kd.R_lt (by (with_reducible repeat (first | apply Kd.R_alloc | apply Kd.R_drewN | apply Kd.R_drew)); exact HO_492004.out))) (below_size (by repeat (first | (with_reducible first | exact HB.out | apply below_alloc | apply pw_below_drewN | apply below_drew1 | refine below_set ?_ GE458.out | refine below_set ?_ GE459.out | refine below_set ?_ GE473.out | refine below_set ?_ GE482.out | refine below_set ?_ GE491.out) | exact HB.out)))); have n4_ := Aside0.mk (blk_below (g := gb458) (o := .cells #[.string a0_0, .int .i64 a0_1, .bool a0_2, .string a0_3, .slice A0_4 l0_4.length c0_4] 24 (0, 0)) (by (with_reducible repeat (first | refine blk_drewN ?_ _ | refine blk_drew ?_ | refine blk_alloc ?_ _)); exact BK458.out) hb); have n5_ := Aside0.mk (blk_below (g := gb459) (o := .cells #[.string a1_0, .int .i64 a1_1, .bool a1_2, .string a1_3, .slice A1_4 l1_4.length c1_4] 24 (0, 0)) (by (with_reducible repeat (first | refine blk_drewN ?_ _ | refine blk_drew ?_ | refine blk_alloc ?_ _)); exact BK459.out) hb); have n6_ := Aside0.mk (blk_below (g := gb473) (o := .cells #[.string t465, .int .i64 t466, .bool t467, .string t468, .slice Ao159 x474004_5.length co159] 24 (0, 0)) (by (with_reducible repeat (first | refine blk_drewN ?_ _ | refine blk_drew ?_ | refine blk_alloc ?_ _)); exact BK473.out) hb); have n7_ := Aside0.mk (blk_below (g := gb482) (o := .cells #[.string t474, .int .i64 t475, .bool t476, .string t477, u483004] 24 (0, 0)) (by (with_reducible repeat (first | refine blk_drewN ?_ _ | refine blk_drew ?_ | refine blk_alloc ?_ _)); exact BK482.out) hb); have n8_ := Aside0.mk (blk_below (g := gb491) (o := .cells #[.string t483, .int .i64 t484, .bool t485, .string t486, .slice Ao180 x492004_5.length co180] 24 (0, 0)) (by (with_reducible repeat (first | refine blk_drewN ?_ _ | refine blk_drew ?_ | refine blk_alloc ?_ _)); exact BK491.out) hb); have n9_ := Aside0.mk (below_step (by repeat (first | (with_reducible first | exact HB.out | apply below_alloc | apply pw_below_drewN | apply below_drew1 | refine below_set ?_ GE458.out | refine below_set ?_ GE459.out | refine below_set ?_ GE473.out | refine below_set ?_ GE482.out | refine below_set ?_ GE491.out) | exact HB.out)) hb); clear HO_474004; clear HO_483004; clear HO_492004; clear BK458; clear BK459; clear BK473; clear BK482; clear BK491; clear HB; have HO_474004 := n0_; have HO_483004 := n1_; have HO_492004 := n2_; have HO511 := n3_; have BK458 := n4_; have BK459 := n5_; have BK473 := n6_; have BK482 := n7_; have BK491 := n8_; have HB := n9_; clear n0_ n1_ n2_ n3_ n4_ n5_ n6_ n7_ n8_ n9_; (try clear hb); (try clear hb2); (try clear hk); (try clear hi); (try clear ho0)) | ((with_reducible refine gate_dst (N := 20) rfl ?_); (try (refine gate_guard (by rfl) ?_; dsimp only)); refine box_event ?hg (N := 20) ?hd (cs := #[.string (⟨#[]⟩ : ByteArray), .int .i64 0, .bool false, .string (⟨#[]⟩ : ByteArray), .slice none 0 0]) (t := 24) ?hr ?_; (case hd => rfl); (case hg => rfl); (case hr => first | (go_simp; done) | (go_simp; rfl)); intro gb513 hg w182 hbox hb; have n0_ := Aside0.mk (Kd.R_below (by (with_reducible repeat (first | apply Kd.R_alloc | apply Kd.R_drewN | apply Kd.R_drew)); exact HO_474004.out) hb); have n1_ := Aside0.mk (Kd.R_below (by (with_reducible repeat (first | apply Kd.R_alloc | apply Kd.R_drewN | apply Kd.R_drew)); exact HO_483004.out) hb); have n2_ := Aside0.mk (Kd.R_below (by (with_reducible repeat (first | apply Kd.R_alloc | apply Kd.R_drewN | apply Kd.R_drew)); exact HO_492004.out) hb); have n3_ := Aside0.mk (Kd.R_below (by (with_reducible repeat (first | apply Kd.R_alloc | apply Kd.R_drewN | apply Kd.R_drew)); exact HO511.out) hb); have n4_ := Aside0.mk (blk_below (g := gb458) (o := .cells #[.string a0_0, .int .i64 a0_1, .bool a0_2, .string a0_3, .slice A0_4 l0_4.length c0_4] 24 (0, 0)) (by (with_reducible repeat (first | refine blk_drewN ?_ _ | refine blk_drew ?_ | refine blk_alloc ?_ _)); exact BK458.out) hb); have n5_ := Aside0.mk (blk_below (g := gb459) (o := .cells #[.string a1_0, .int .i64 a1_1, .bool a1_2, .string a1_3, .slice A1_4 l1_4.length c1_4] 24 (0, 0)) (by (with_reducible repeat (first | refine blk_drewN ?_ _ | refine blk_drew ?_ | refine blk_alloc ?_ _)); exact BK459.out) hb); have n6_ := Aside0.mk (blk_below (g := gb473) (o := .cells #[.string t465, .int .i64 t466, .bool t467, .string t468, .slice Ao159 x474004_5.length co159] 24 (0, 0)) (by (with_reducible repeat (first | refine blk_drewN ?_ _ | refine blk_drew ?_ | refine blk_alloc ?_ _)); exact BK473.out) hb); have n7_ := Aside0.mk (blk_below (g := gb482) (o := .cells #[.string t474, .int .i64 t475, .bool t476, .string t477, u483004] 24 (0, 0)) (by (with_reducible repeat (first | refine blk_drewN ?_ _ | refine blk_drew ?_ | refine blk_alloc ?_ _)); exact BK482.out) hb); have n8_ := Aside0.mk (blk_below (g := gb491) (o := .cells #[.string t483, .int .i64 t484, .bool t485, .string t486, .slice Ao180 x492004_5.length co180] 24 (0, 0)) (by (with_reducible repeat (first | refine blk_drewN ?_ _ | refine blk_drew ?_ | refine blk_alloc ?_ _)); exact BK491.out) hb); have n9_ := Aside0.mk (below_step (by repeat (first | (with_reducible first | exact HB.out | apply below_alloc | apply pw_below_drewN | apply below_drew1 | refine below_set ?_ GE458.out | refine below_set ?_ GE459.out | refine below_set ?_ GE473.out | refine below_set ?_ GE482.out | refine below_set ?_ GE491.out) | exact HB.out)) hb); have n10_ := Aside0.mk (hbox); have n11_ := Aside0.mk ((by rw [hg]; exact (below_size (by repeat (first | (with_reducible first | exact HB.out | apply below_alloc | apply pw_below_drewN | apply below_drew1 | refine below_set ?_ GE458.out | refine below_set ?_ GE459.out | refine below_set ?_ GE473.out | refine below_set ?_ GE482.out | refine below_set ?_ GE491.out) | exact HB.out))) : w.heap.size ≤ gb513)); have n12_ := Aside0.mk ((by rw [hg]; exact (below_size (by repeat (first | (with_reducible first | exact HB.out | apply below_alloc | apply pw_below_drewN | apply below_drew1 | refine below_set ?_ GE458.out | refine below_set ?_ GE459.out | refine below_set ?_ GE473.out | refine below_set ?_ GE482.out | refine below_set ?_ GE491.out) | exact HB.out))) : w.heap.size ≤ gb513)); have n13_ := Aside0.mk ((by rw [hg]; exact Nat.ne_of_lt (blk_lt (g := gb458) (o := .cells #[.string a0_0, .int .i64 a0_1, .bool a0_2, .string a0_3, .slice A0_4 l0_4.length c0_4] 24 (0, 0)) (by (with_reducible repeat (first | refine blk_drewN ?_ _ | refine blk_drew ?_ | refine blk_alloc ?_ _)); exact BK458.out)) : gb458 ≠ gb513)); have n14_ := Aside0.mk ((by rw [hg]; exact Nat.ne_of_gt (blk_lt (g := gb458) (o := .cells #[.string a0_0, .int .i64 a0_1, .bool a0_2, .string a0_3, .slice A0_4 l0_4.length c0_4] 24 (0, 0)) (by (with_reducible repeat (first | refine blk_drewN ?_ _ | refine blk_drew ?_ | refine blk_alloc ?_ _)); exact BK458.out)) : gb513 ≠ gb458)); have n15_ := Aside0.mk ((by rw [hg]; exact Nat.ne_of_lt (blk_lt (g := gb459) (o := .cells #[.string a1_0, .int .i64 a1_1, .bool a1_2, .string a1_3, .slice A1_4 l1_4.length c1_4] 24 (0, 0)) (by (with_reducible repeat (first | refine blk_drewN ?_ _ | refine blk_drew ?_ | refine blk_alloc ?_ _)); exact BK459.out)) : gb459 ≠ gb513)); have n16_ := Aside0.mk ((by rw [hg]; exact Nat.ne_of_gt (blk_lt (g := gb459) (o := .cells #[.string a1_0, .int .i64 a1_1, .bool a1_2, .string a1_3, .slice A1_4 l1_4.length c1_4] 24 (0, 0)) (by (with_reducible repeat (first | refine blk_drewN ?_ _ | refine blk_drew ?_ | refine blk_alloc ?_ _)); exact BK459.out)) : gb513 ≠ gb459)); have n17_ := Aside0.mk ((by rw [hg]; exact Nat.ne_of_lt (blk_lt (g := gb473) (o := .cells #[.string t465, .int .i64 t466, .bool t467, .string t468, .slice Ao159 x474004_5.length co159] 24 (0, 0)) (by (with_reducible repeat (first | refine blk_drewN ?_ _ | refine blk_drew ?_ | refine blk_alloc ?_ _)); exact BK473.out)) : gb473 ≠ gb513)); have n18_ := Aside0.mk ((by rw [hg]; exact Nat.ne_of_gt (blk_lt (g := gb473) (o := .cells #[.string t465, .int .i64 t466, .bool t467, .string t468, .slice Ao159 x474004_5.length co159] 24 (0, 0)) (by (with_reducible repeat (first | refine blk_drewN ?_ _ | refine blk_drew ?_ | refine blk_alloc ?_ _)); exact BK473.out)) : gb513 ≠ gb473)); have n19_ := Aside0.mk ((by rw [hg]; exact Nat.ne_of_lt (blk_lt (g := gb482) (o := .cells #[.string t474, .int .i64 t475, .bool t476, .string t477, u483004] 24 (0, 0)) (by (with_reducible repeat (first | refine blk_drewN ?_ _ | refine blk_drew ?_ | refine blk_alloc ?_ _)); exact BK482.out)) : gb482 ≠ gb513)); have n20_ := Aside0.mk ((by rw [hg]; exact Nat.ne_of_gt (blk_lt (g := gb482) (o := .cells #[.string t474, .int .i64 t475, .bool t476, .string t477, u483004] 24 (0, 0)) (by (with_reducible repeat (first | refine blk_drewN ?_ _ | refine blk_drew ?_ | refine blk_alloc ?_ _)); exact BK482.out)) : gb513 ≠ gb482)); have n21_ := Aside0.mk ((by rw [hg]; exact Nat.ne_of_lt (blk_lt (g := gb491) (o := .cells #[.string t483, .int .i64 t484, .bool t485, .string t486, .slice Ao180 x492004_5.length co180] 24 (0, 0)) (by (with_reducible repeat (first | refine blk_drewN ?_ _ | refine blk_drew ?_ | refine blk_alloc ?_ _)); exact BK491.out)) : gb491 ≠ gb513)); have n22_ := Aside0.mk ((by rw [hg]; exact Nat.ne_of_gt (blk_lt (g := gb491) (o := .cells #[.string t483, .int .i64 t484, .bool t485, .string t486, .slice Ao180 x492004_5.length co180] 24 (0, 0)) (by (with_reducible repeat (first | refine blk_drewN ?_ _ | refine blk_drew ?_ | refine blk_alloc ?_ _)); exact BK491.out)) : gb513 ≠ gb491)); clear HO_474004; clear HO_483004; clear HO_492004; clear HO511; clear BK458; clear BK459; clear BK473; clear BK482; clear BK491; clear HB; have HO_474004 := n0_; have HO_483004 := n1_; have HO_492004 := n2_; have HO511 := n3_; have BK458 := n4_; have BK459 := n5_; have BK473 := n6_; have BK482 := n7_; have BK491 := n8_; have HB := n9_; have BK513 := n10_; have GW513 := n11_; have GE513 := n12_; have NB458_513 := n13_; have NB513_458 := n14_; have NB459_513 := n15_; have NB513_459 := n16_; have NB473_513 := n17_; have NB513_473 := n18_; have NB482_513 := n19_; have NB513_482 := n20_; have NB491_513 := n21_; have NB513_491 := n22_; clear n0_ n1_ n2_ n3_ n4_ n5_ n6_ n7_ n8_ n9_ n10_ n11_ n12_ n13_ n14_ n15_ n16_ n17_ n18_ n19_ n20_ n21_ n22_; clear hb hbox hg; have hnb183 := NB513_458.out; have hnc183 := NB458_513.out; have hnb184 := NB513_459.out; have hnc184 := NB459_513.out; have hnb185 := NB513_473.out; have hnc185 := NB473_513.out; have hnb186 := NB513_482.out; have hnc186 := NB482_513.out; have hnb187 := NB513_491.out; have hnc187 := NB491_513.out; have hcz188_0 : w182.cell? ⟨gb513, 0, none⟩ = some (.string (⟨#[]⟩ : ByteArray)) := (blk_cell BK513.out 0).trans rfl; have hcz188_1 : w182.cell? ⟨gb513, 1, none⟩ = some (.int .i64 0) := (blk_cell BK513.out 1).trans rfl; have hcz188_2 : w182.cell? ⟨gb513, 2, none⟩ = some (.bool false) := (blk_cell BK513.out 2).trans rfl; have hcz188_3 : w182.cell? ⟨gb513, 3, none⟩ = some (.string (⟨#[]⟩ : ByteArray)) := (blk_cell BK513.out 3).trans rfl; have hcz188_4 : w182.cell? ⟨gb513, 4, none⟩ = some (.slice none 0 0) := (blk_cell BK513.out 4).trans rfl; have hfz188_0 := blk_frozen BK513.out 0; have hfz188_1 := blk_frozen BK513.out 1; have hfz188_2 := blk_frozen BK513.out 2; have hfz188_3 := blk_frozen BK513.out 3; have hfz188_4 := blk_frozen BK513.out 4; obtain ⟨Ao189, co189, eo189⟩ := Kd.R_slice HO511.out; subst eo189; have hnb190 := NB482_458.out; have hnc190 := NB458_482.out; have hnb191 := NB482_459.out; have hnc191 := NB459_482.out; have hnb192 := NB482_473.out; have hnc192 := NB473_482.out; have hcz193_0 : w182.cell? ⟨gb482, 0, none⟩ = some (.string t474) := (blk_cell BK482.out 0).trans rfl; have hcz193_1 : w182.cell? ⟨gb482, 1, none⟩ = some (.int .i64 t475) := (blk_cell BK482.out 1).trans rfl; have hcz193_2 : w182.cell? ⟨gb482, 2, none⟩ = some (.bool t476) := (blk_cell BK482.out 2).trans rfl; have hcz193_3 : w182.cell? ⟨gb482, 3, none⟩ = some (.string t477) := (blk_cell BK482.out 3).trans rfl; have hcz193_4 : w182.cell? ⟨gb482, 4, none⟩ = some (u483004) := (blk_cell BK482.out 4).trans rfl; have hfz193_0 := blk_frozen BK482.out 0; have hfz193_1 := blk_frozen BK482.out 1; have hfz193_2 := blk_frozen BK482.out 2; have hfz193_3 := blk_frozen BK482.out 3; have hfz193_4 := blk_frozen BK482.out 4; have hnb194 := NB458_459.out; have hnc194 := NB459_458.out; have hnb195 := NB458_473.out; have hnc195 := NB473_458.out; have hcz196_0 : w182.cell? ⟨gb458, 0, none⟩ = some (.string a0_0) := (blk_cell BK458.out 0).trans rfl; have hcz196_1 : w182.cell? ⟨gb458, 1, none⟩ = some (.int .i64 a0_1) := (blk_cell BK458.out 1).trans rfl; have hcz196_2 : w182.cell? ⟨gb458, 2, none⟩ = some (.bool a0_2) := (blk_cell BK458.out 2).trans rfl; have hcz196_3 : w182.cell? ⟨gb458, 3, none⟩ = some (.string a0_3) := (blk_cell BK458.out 3).trans rfl; have hcz196_4 : w182.cell? ⟨gb458, 4, none⟩ = some (.slice A0_4 l0_4.length c0_4) := (blk_cell BK458.out 4).trans rfl; have hfz196_0 := blk_frozen BK458.out 0; have hfz196_1 := blk_frozen BK458.out 1; have hfz196_2 := blk_frozen BK458.out 2; have hfz196_3 := blk_frozen BK458.out 3; have hfz196_4 := blk_frozen BK458.out 4; obtain ⟨Ao197, co197, eo197⟩ := Kd.R_slice HO_483004.out; subst eo197) | ((with_reducible refine gate_callee (f := 15) rfl ?_); refine goesL_ (some 146) rfl rfl Try.func15 (by kernel_rfl) rfl #[.agg #[.string t474, .int .i64 t475, .bool t476, .string t477, .slice Ao197 x483004_4.length co197], .agg #[.string a0_0, .int .i64 a0_1, .bool a0_2, .string a0_3, .slice A0_4 l0_4.length c0_4]] rfl (by (try simp only [List.map_toArray, List.map_cons, List.map_nil]); first | done | rfl | (simp only [List.length_drop, List.length_take]; rfl)) ?_; (with_reducible refine (cofferref13_Same.calls k7 t474 t475 t476 t477 _ _ x483004_4 a0_0 a0_1 a0_2 a0_3 _ _ l0_4 true _ ?side1 ?side2 ?side3 ?side4 A170.out).mono ?_); (case side1 => refine (Kd.R_reads' (e := 31) (base := w.heap.size) (ok := fun k_ => ((some k_ ≠ (.slice Ao159 x474004_5.length co159 : Value).ownBlock ∧ some k_ ≠ (.slice Ao180 x492004_5.length co180 : Value).ownBlock) ∧ some k_ ≠ (.slice Ao189 t509.length co189 : Value).ownBlock)) (n := x483004_4.length) (c := co197) ?_).2.2; exact (by (with_reducible repeat (first | apply Kd.R_alloc | apply Kd.R_drewN | apply Kd.R_drew)); exact (Kd.R_mono (Kd.R_far (p := ⟨gb513, 4, none⟩) (Kd.R_far (p := ⟨gb513, 3, none⟩) (Kd.R_far (p := ⟨gb513, 2, none⟩) (Kd.R_far (p := ⟨gb513, 1, none⟩) (Kd.R_far (p := ⟨gb513, 0, none⟩) (Kd.R_types HO_483004.out BK513.out (by decide)) (fun _ hk => hk.2) (.string t505)) (fun _ hk => hk.2) (.int .i64 t506)) (fun _ hk => hk.2) (.bool t507)) (fun _ hk => hk.2) (.string t508)) (fun _ hk => hk.2) (.slice Ao189 t509.length co189)) (fun _ h_ => h_.1)))); (case side2 => exact (Kd.R_reads' HO_483004.out).2.1); (case side3 => exact Kd.C_below HR0_4.out (by repeat (first | (with_reducible first | exact HB.out | apply below_alloc | apply pw_below_drewN | apply below_drew1 | refine below_set ?_ GE458.out | refine below_set ?_ GE459.out | refine below_set ?_ GE473.out | refine below_set ?_ GE482.out | refine below_set ?_ GE491.out | refine below_set ?_ GE513.out) | exact HB.out))); (case side4 => exact HC0_4.out); rintro e w198 ⟨rfl, hb⟩; refine ⟨_, rfl, ?_⟩; have n0_ := Aside0.mk (Kd.R_below (by (with_reducible repeat (first | apply Kd.R_alloc | apply Kd.R_drewN | apply Kd.R_drew)); exact (Kd.R_mono (Kd.R_far (p := ⟨gb513, 4, none⟩) (Kd.R_far (p := ⟨gb513, 3, none⟩) (Kd.R_far (p := ⟨gb513, 2, none⟩) (Kd.R_far (p := ⟨gb513, 1, none⟩) (Kd.R_far (p := ⟨gb513, 0, none⟩) (Kd.R_types HO_474004.out BK513.out (by decide)) (fun _ hk => hk.2) (.string t505)) (fun _ hk => hk.2) (.int .i64 t506)) (fun _ hk => hk.2) (.bool t507)) (fun _ hk => hk.2) (.string t508)) (fun _ hk => hk.2) (.slice Ao189 t509.length co189)) (fun _ h_ => h_.1))) hb); have n1_ := Aside0.mk (Kd.R_below (by (with_reducible repeat (first | apply Kd.R_alloc | apply Kd.R_drewN | apply Kd.R_drew)); exact (Kd.R_mono (Kd.R_far (p := ⟨gb513, 4, none⟩) (Kd.R_far (p := ⟨gb513, 3, none⟩) (Kd.R_far (p := ⟨gb513, 2, none⟩) (Kd.R_far (p := ⟨gb513, 1, none⟩) (Kd.R_far (p := ⟨gb513, 0, none⟩) (Kd.R_types HO_483004.out BK513.out (by decide)) (fun _ hk => hk.2) (.string t505)) (fun _ hk => hk.2) (.int .i64 t506)) (fun _ hk => hk.2) (.bool t507)) (fun _ hk => hk.2) (.string t508)) (fun _ hk => hk.2) (.slice Ao189 t509.length co189)) (fun _ h_ => h_.1))) hb); have n2_ := Aside0.mk (Kd.R_below (by (with_reducible repeat (first | apply Kd.R_alloc | apply Kd.R_drewN | apply Kd.R_drew)); exact (Kd.R_mono (Kd.R_far (p := ⟨gb513, 4, none⟩) (Kd.R_far (p := ⟨gb513, 3, none⟩) (Kd.R_far (p := ⟨gb513, 2, none⟩) (Kd.R_far (p := ⟨gb513, 1, none⟩) (Kd.R_far (p := ⟨gb513, 0, none⟩) (Kd.R_types HO_492004.out BK513.out (by decide)) (fun _ hk => hk.2) (.string t505)) (fun _ hk => hk.2) (.int .i64 t506)) (fun _ hk => hk.2) (.bool t507)) (fun _ hk => hk.2) (.string t508)) (fun _ hk => hk.2) (.slice Ao189 t509.length co189)) (fun _ h_ => h_.1))) hb); have n3_ := Aside0.mk (Kd.R_below (by (with_reducible repeat (first | apply Kd.R_alloc | apply Kd.R_drewN | apply Kd.R_drew)); exact (Kd.R_mono (Kd.R_far (p := ⟨gb513, 4, none⟩) (Kd.R_far (p := ⟨gb513, 3, none⟩) (Kd.R_far (p := ⟨gb513, 2, none⟩) (Kd.R_far (p := ⟨gb513, 1, none⟩) (Kd.R_far (p := ⟨gb513, 0, none⟩) (Kd.R_types HO511.out BK513.out (by decide)) (fun _ hk => hk.2) (.string t505)) (fun _ hk => hk.2) (.int .i64 t506)) (fun _ hk => hk.2) (.bool t507)) (fun _ hk => hk.2) (.string t508)) (fun _ hk => hk.2) (.slice Ao189 t509.length co189)) (fun _ h_ => h_.1))) hb); have n4_ := Aside0.mk (blk_below (g := gb458) (o := .cells #[.string a0_0, .int .i64 a0_1, .bool a0_2, .string a0_3, .slice A0_4 l0_4.length c0_4] 24 (0, 0)) (by (with_reducible repeat (first | refine blk_drewN ?_ _ | refine blk_drew ?_ | refine blk_alloc ?_ _)); refine blk_far ?_ NB458_513.out _; (with_reducible repeat (first | refine blk_drewN ?_ _ | refine blk_drew ?_ | refine blk_alloc ?_ _)); refine blk_far ?_ NB458_513.out _; (with_reducible repeat (first | refine blk_drewN ?_ _ | refine blk_drew ?_ | refine blk_alloc ?_ _)); refine blk_far ?_ NB458_513.out _; (with_reducible repeat (first | refine blk_drewN ?_ _ | refine blk_drew ?_ | refine blk_alloc ?_ _)); refine blk_far ?_ NB458_513.out _; (with_reducible repeat (first | refine blk_drewN ?_ _ | refine blk_drew ?_ | refine blk_alloc ?_ _)); refine blk_far ?_ NB458_513.out _; (with_reducible repeat (first | refine blk_drewN ?_ _ | refine blk_drew ?_ | refine blk_alloc ?_ _)); exact BK458.out) hb); have n5_ := Aside0.mk (blk_below (g := gb459) (o := .cells #[.string a1_0, .int .i64 a1_1, .bool a1_2, .string a1_3, .slice A1_4 l1_4.length c1_4] 24 (0, 0)) (by (with_reducible repeat (first | refine blk_drewN ?_ _ | refine blk_drew ?_ | refine blk_alloc ?_ _)); refine blk_far ?_ NB459_513.out _; (with_reducible repeat (first | refine blk_drewN ?_ _ | refine blk_drew ?_ | refine blk_alloc ?_ _)); refine blk_far ?_ NB459_513.out _; (with_reducible repeat (first | refine blk_drewN ?_ _ | refine blk_drew ?_ | refine blk_alloc ?_ _)); refine blk_far ?_ NB459_513.out _; (with_reducible repeat (first | refine blk_drewN ?_ _ | refine blk_drew ?_ | refine blk_alloc ?_ _)); refine blk_far ?_ NB459_513.out _; (with_reducible repeat (first | refine blk_drewN ?_ _ | refine blk_drew ?_ | refine blk_alloc ?_ _)); refine blk_far ?_ NB459_513.out _; (with_reducible repeat (first | refine blk_drewN ?_ _ | refine blk_drew ?_ | refine blk_alloc ?_ _)); exact BK459.out) hb); have n6_ := Aside0.mk (blk_below (g := gb473) (o := .cells #[.string t465, .int .i64 t466, .bool t467, .string t468, .slice Ao159 x474004_5.length co159] 24 (0, 0)) (by (with_reducible repeat (first | refine blk_drewN ?_ _ | refine blk_drew ?_ | refine blk_alloc ?_ _)); refine blk_far ?_ NB473_513.out _; (with_reducible repeat (first | refine blk_drewN ?_ _ | refine blk_drew ?_ | refine blk_alloc ?_ _)); refine blk_far ?_ NB473_513.out _; (with_reducible repeat (first | refine blk_drewN ?_ _ | refine blk_drew ?_ | refine blk_alloc ?_ _)); refine blk_far ?_ NB473_513.out _; (with_reducible repeat (first | refine blk_drewN ?_ _ | refine blk_drew ?_ | refine blk_alloc ?_ _)); refine blk_far ?_ NB473_513.out _; (with_reducible repeat (first | refine blk_drewN ?_ _ | refine blk_drew ?_ | refine blk_alloc ?_ _)); refine blk_far ?_ NB473_513.out _; (with_reducible repeat (first | refine blk_drewN ?_ _ | refine blk_drew ?_ | refine blk_alloc ?_ _)); exact BK473.out) hb); have n7_ := Aside0.mk (blk_below (g := gb482) (o := .cells #[.string t474, .int .i64 t475, .bool t476, .string t477, .slice Ao197 x483004_4.length co197] 24 (0, 0)) (by (with_reducible repeat (first | refine blk_drewN ?_ _ | refine blk_drew ?_ | refine blk_alloc ?_ _)); refine blk_far ?_ NB482_513.out _; (with_reducible repeat (first | refine blk_drewN ?_ _ | refine blk_drew ?_ | refine blk_alloc ?_ _)); refine blk_far ?_ NB482_513.out _; (with_reducible repeat (first | refine blk_drewN ?_ _ | refine blk_drew ?_ | refine blk_alloc ?_ _)); refine blk_far ?_ NB482_513.out _; (with_reducible repeat (first | refine blk_drewN ?_ _ | refine blk_drew ?_ | refine blk_alloc ?_ _)); refine blk_far ?_ NB482_513.out _; (with_reducible repeat (first | refine blk_drewN ?_ _ | refine blk_drew ?_ | refine blk_alloc ?_ _)); refine blk_far ?_ NB482_513.out _; (with_reducible repeat (first | refine blk_drewN ?_ _ | refine blk_drew ?_ | refine blk_alloc ?_ _)); exact BK482.out) hb); have n8_ := Aside0.mk (blk_below (g := gb491) (o := .cells #[.string t483, .int .i64 t484, .bool t485, .string t486, .slice Ao180 x492004_5.length co180] 24 (0, 0)) (by (with_reducible repeat (first | refine blk_drewN ?_ _ | refine blk_drew ?_ | refine blk_alloc ?_ _)); refine blk_far ?_ NB491_513.out _; (with_reducible repeat (first | refine blk_drewN ?_ _ | refine blk_drew ?_ | refine blk_alloc ?_ _)); refine blk_far ?_ NB491_513.out _; (with_reducible repeat (first | refine blk_drewN ?_ _ | refine blk_drew ?_ | refine blk_alloc ?_ _)); refine blk_far ?_ NB491_513.out _; (with_reducible repeat (first | refine blk_drewN ?_ _ | refine blk_drew ?_ | refine blk_alloc ?_ _)); refine blk_far ?_ NB491_513.out _; (with_reducible repeat (first | refine blk_drewN ?_ _ | refine blk_drew ?_ | refine blk_alloc ?_ _)); refine blk_far ?_ NB491_513.out _; (with_reducible repeat (first | refine blk_drewN ?_ _ | refine blk_drew ?_ | refine blk_alloc ?_ _)); exact BK491.out) hb); have n9_ := Aside0.mk (blk_below (g := gb513) (o := .cells #[.string t505, .int .i64 t506, .bool t507, .string t508, .slice Ao189 t509.length co189] 24 (0, 0)) (by (with_reducible repeat (first | refine blk_drewN ?_ _ | refine blk_drew ?_ | refine blk_alloc ?_ _)); refine blk_put (cs := #[.string t505, .int .i64 t506, .bool t507, .string t508, .slice none 0 0]) ?_ 4 _ rfl; (with_reducible repeat (first | refine blk_drewN ?_ _ | refine blk_drew ?_ | refine blk_alloc ?_ _)); refine blk_put (cs := #[.string t505, .int .i64 t506, .bool t507, .string (⟨#[]⟩ : ByteArray), .slice none 0 0]) ?_ 3 _ rfl; (with_reducible repeat (first | refine blk_drewN ?_ _ | refine blk_drew ?_ | refine blk_alloc ?_ _)); refine blk_put (cs := #[.string t505, .int .i64 t506, .bool false, .string (⟨#[]⟩ : ByteArray), .slice none 0 0]) ?_ 2 _ rfl; (with_reducible repeat (first | refine blk_drewN ?_ _ | refine blk_drew ?_ | refine blk_alloc ?_ _)); refine blk_put (cs := #[.string t505, .int .i64 0, .bool false, .string (⟨#[]⟩ : ByteArray), .slice none 0 0]) ?_ 1 _ rfl; (with_reducible repeat (first | refine blk_drewN ?_ _ | refine blk_drew ?_ | refine blk_alloc ?_ _)); refine blk_put (cs := #[.string (⟨#[]⟩ : ByteArray), .int .i64 0, .bool false, .string (⟨#[]⟩ : ByteArray), .slice none 0 0]) ?_ 0 _ rfl; (with_reducible repeat (first | refine blk_drewN ?_ _ | refine blk_drew ?_ | refine blk_alloc ?_ _)); exact BK513.out) hb); have n10_ := Aside0.mk (below_step (by repeat (first | (with_reducible first | exact HB.out | apply below_alloc | apply pw_below_drewN | apply below_drew1 | refine below_set ?_ GE458.out | refine below_set ?_ GE459.out | refine below_set ?_ GE473.out | refine below_set ?_ GE482.out | refine below_set ?_ GE491.out | refine below_set ?_ GE513.out) | exact HB.out)) hb); clear HO_474004; clear HO_483004; clear HO_492004; clear HO511; clear BK458; clear BK459; clear BK473; clear BK482; clear BK491; clear BK513; clear HB; have HO_474004 := n0_; have HO_483004 := n1_; have HO_492004 := n2_; have HO511 := n3_; have BK458 := n4_; have BK459 := n5_; have BK473 := n6_; have BK482 := n7_; have BK491 := n8_; have BK513 := n9_; have HB := n10_; clear n0_ n1_ n2_ n3_ n4_ n5_ n6_ n7_ n8_ n9_ n10_; (try clear hb); (try clear hb2); (try clear hk); (try clear hi); have hcz199_0 : w198.cell? ⟨gb513, 0, none⟩ = some (.string t505) := (blk_cell BK513.out 0).trans rfl; have hcz199_1 : w198.cell? ⟨gb513, 1, none⟩ = some (.int .i64 t506) := (blk_cell BK513.out 1).trans rfl; have hcz199_2 : w198.cell? ⟨gb513, 2, none⟩ = some (.bool t507) := (blk_cell BK513.out 2).trans rfl; have hcz199_3 : w198.cell? ⟨gb513, 3, none⟩ = some (.string t508) := (blk_cell BK513.out 3).trans rfl; have hcz199_4 : w198.cell? ⟨gb513, 4, none⟩ = some (.slice Ao189 t509.length co189) := (blk_cell BK513.out 4).trans rfl; have hfz199_0 := blk_frozen BK513.out 0; have hfz199_1 := blk_frozen BK513.out 1; have hfz199_2 := blk_frozen BK513.out 2; have hfz199_3 := blk_frozen BK513.out 3; have hfz199_4 := blk_frozen BK513.out 4; have hcz200_0 : w198.cell? ⟨gb458, 0, none⟩ = some (.string a0_0) := (blk_cell BK458.out 0).trans rfl; have hcz200_1 : w198.cell? ⟨gb458, 1, none⟩ = some (.int .i64 a0_1) := (blk_cell BK458.out 1).trans rfl; have hcz200_2 : w198.cell? ⟨gb458, 2, none⟩ = some (.bool a0_2) := (blk_cell BK458.out 2).trans rfl; have hcz200_3 : w198.cell? ⟨gb458, 3, none⟩ = some (.string a0_3) := (blk_cell BK458.out 3).trans rfl; have hcz200_4 : w198.cell? ⟨gb458, 4, none⟩ = some (.slice A0_4 l0_4.length c0_4) := (blk_cell BK458.out 4).trans rfl; have hfz200_0 := blk_frozen BK458.out 0; have hfz200_1 := blk_frozen BK458.out 1; have hfz200_2 := blk_frozen BK458.out 2; have hfz200_3 := blk_frozen BK458.out 3; have hfz200_4 := blk_frozen BK458.out 4) | (go_at_call 15; (with_reducible refine (cofferref13_Same.calls k7 t505 t506 t507 t508 _ _ t509 a0_0 a0_1 a0_2 a0_3 _ _ l0_4 true _ ?side1 ?side2 ?side3 ?side4 A172.out).mono ?_); (case side1 => repeat (first | exact (Kd.R_reads' HO511.out).2.2 | (with_reducible refine Kd.C_alloc ?_ _) | (with_reducible refine Kd.C_drewN ?_ _) | (with_reducible refine Kd.C_drew ?_))); (case side2 => exact (Kd.R_reads' HO511.out).2.1); (case side3 => repeat (first | exact (Kd.C_below HR0_4.out HB.out) | (with_reducible refine Kd.C_alloc ?_ _) | (with_reducible refine Kd.C_drewN ?_ _) | (with_reducible refine Kd.C_drew ?_))); (case side4 => exact HC0_4.out); rintro e w201 ⟨rfl, hb⟩; have n0_ := Aside0.mk (Kd.R_below (by (with_reducible repeat (first | apply Kd.R_alloc | apply Kd.R_drewN | apply Kd.R_drew)); exact HO_474004.out) hb); have n1_ := Aside0.mk (Kd.R_below (by (with_reducible repeat (first | apply Kd.R_alloc | apply Kd.R_drewN | apply Kd.R_drew)); exact HO_483004.out) hb); have n2_ := Aside0.mk (Kd.R_below (by (with_reducible repeat (first | apply Kd.R_alloc | apply Kd.R_drewN | apply Kd.R_drew)); exact HO_492004.out) hb); have n3_ := Aside0.mk (Kd.R_below (by (with_reducible repeat (first | apply Kd.R_alloc | apply Kd.R_drewN | apply Kd.R_drew)); exact HO511.out) hb); have n4_ := Aside0.mk (blk_below (g := gb458) (o := .cells #[.string a0_0, .int .i64 a0_1, .bool a0_2, .string a0_3, .slice A0_4 l0_4.length c0_4] 24 (0, 0)) (by (with_reducible repeat (first | refine blk_drewN ?_ _ | refine blk_drew ?_ | refine blk_alloc ?_ _)); exact BK458.out) hb); have n5_ := Aside0.mk (blk_below (g := gb459) (o := .cells #[.string a1_0, .int .i64 a1_1, .bool a1_2, .string a1_3, .slice A1_4 l1_4.length c1_4] 24 (0, 0)) (by (with_reducible repeat (first | refine blk_drewN ?_ _ | refine blk_drew ?_ | refine blk_alloc ?_ _)); exact BK459.out) hb); have n6_ := Aside0.mk (blk_below (g := gb473) (o := .cells #[.string t465, .int .i64 t466, .bool t467, .string t468, .slice Ao159 x474004_5.length co159] 24 (0, 0)) (by (with_reducible repeat (first | refine blk_drewN ?_ _ | refine blk_drew ?_ | refine blk_alloc ?_ _)); exact BK473.out) hb); have n7_ := Aside0.mk (blk_below (g := gb482) (o := .cells #[.string t474, .int .i64 t475, .bool t476, .string t477, .slice Ao197 x483004_4.length co197] 24 (0, 0)) (by (with_reducible repeat (first | refine blk_drewN ?_ _ | refine blk_drew ?_ | refine blk_alloc ?_ _)); exact BK482.out) hb); have n8_ := Aside0.mk (blk_below (g := gb491) (o := .cells #[.string t483, .int .i64 t484, .bool t485, .string t486, .slice Ao180 x492004_5.length co180] 24 (0, 0)) (by (with_reducible repeat (first | refine blk_drewN ?_ _ | refine blk_drew ?_ | refine blk_alloc ?_ _)); exact BK491.out) hb); have n9_ := Aside0.mk (blk_below (g := gb513) (o := .cells #[.string t505, .int .i64 t506, .bool t507, .string t508, .slice Ao189 t509.length co189] 24 (0, 0)) (by (with_reducible repeat (first | refine blk_drewN ?_ _ | refine blk_drew ?_ | refine blk_alloc ?_ _)); exact BK513.out) hb); have n10_ := Aside0.mk (below_step (by repeat (first | (with_reducible first | exact HB.out | apply below_alloc | apply pw_below_drewN | apply below_drew1 | refine below_set ?_ GE458.out | refine below_set ?_ GE459.out | refine below_set ?_ GE473.out | refine below_set ?_ GE482.out | refine below_set ?_ GE491.out | refine below_set ?_ GE513.out) | exact HB.out)) hb); clear HO_474004; clear HO_483004; clear HO_492004; clear HO511; clear BK458; clear BK459; clear BK473; clear BK482; clear BK491; clear BK513; clear HB; have HO_474004 := n0_; have HO_483004 := n1_; have HO_492004 := n2_; have HO511 := n3_; have BK458 := n4_; have BK459 := n5_; have BK473 := n6_; have BK482 := n7_; have BK491 := n8_; have BK513 := n9_; have HB := n10_; clear n0_ n1_ n2_ n3_ n4_ n5_ n6_ n7_ n8_ n9_ n10_; (try clear hb); (try clear hb2); (try clear hk); (try clear hi); have hnb202 := NB473_459.out; have hnc202 := NB459_473.out; have hcz203_0 : w201.cell? ⟨gb473, 0, none⟩ = some (.string t465) := (blk_cell BK473.out 0).trans rfl; have hcz203_1 : w201.cell? ⟨gb473, 1, none⟩ = some (.int .i64 t466) := (blk_cell BK473.out 1).trans rfl; have hcz203_2 : w201.cell? ⟨gb473, 2, none⟩ = some (.bool t467) := (blk_cell BK473.out 2).trans rfl; have hcz203_3 : w201.cell? ⟨gb473, 3, none⟩ = some (.string t468) := (blk_cell BK473.out 3).trans rfl; have hcz203_4 : w201.cell? ⟨gb473, 4, none⟩ = some (.slice Ao159 x474004_5.length co159) := (blk_cell BK473.out 4).trans rfl; have hfz203_0 := blk_frozen BK473.out 0; have hfz203_1 := blk_frozen BK473.out 1; have hfz203_2 := blk_frozen BK473.out 2; have hfz203_3 := blk_frozen BK473.out 3; have hfz203_4 := blk_frozen BK473.out 4; have hcz204_0 : w201.cell? ⟨gb458, 0, none⟩ = some (.string a0_0) := (blk_cell BK458.out 0).trans rfl; have hcz204_1 : w201.cell? ⟨gb458, 1, none⟩ = some (.int .i64 a0_1) := (blk_cell BK458.out 1).trans rfl; have hcz204_2 : w201.cell? ⟨gb458, 2, none⟩ = some (.bool a0_2) := (blk_cell BK458.out 2).trans rfl; have hcz204_3 : w201.cell? ⟨gb458, 3, none⟩ = some (.string a0_3) := (blk_cell BK458.out 3).trans rfl; have hcz204_4 : w201.cell? ⟨gb458, 4, none⟩ = some (.slice A0_4 l0_4.length c0_4) := (blk_cell BK458.out 4).trans rfl; have hfz204_0 := blk_frozen BK458.out 0; have hfz204_1 := blk_frozen BK458.out 1; have hfz204_2 := blk_frozen BK458.out 2; have hfz204_3 := blk_frozen BK458.out 3; have hfz204_4 := blk_frozen BK458.out 4; have hcz205_0 : w201.cell? ⟨gb491, 0, none⟩ = some (.string t483) := (blk_cell BK491.out 0).trans rfl; have hcz205_1 : w201.cell? ⟨gb491, 1, none⟩ = some (.int .i64 t484) := (blk_cell BK491.out 1).trans rfl; have hcz205_2 : w201.cell? ⟨gb491, 2, none⟩ = some (.bool t485) := (blk_cell BK491.out 2).trans rfl; have hcz205_3 : w201.cell? ⟨gb491, 3, none⟩ = some (.string t486) := (blk_cell BK491.out 3).trans rfl; have hcz205_4 : w201.cell? ⟨gb491, 4, none⟩ = some (.slice Ao180 x492004_5.length co180) := (blk_cell BK491.out 4).trans rfl; have hfz205_0 := blk_frozen BK491.out 0; have hfz205_1 := blk_frozen BK491.out 1; have hfz205_2 := blk_frozen BK491.out 2; have hfz205_3 := blk_frozen BK491.out 3; have hfz205_4 := blk_frozen BK491.out 4; have hcz206_0 : w201.cell? ⟨gb459, 0, none⟩ = some (.string a1_0) := (blk_cell BK459.out 0).trans rfl; have hcz206_1 : w201.cell? ⟨gb459, 1, none⟩ = some (.int .i64 a1_1) := (blk_cell BK459.out 1).trans rfl; have hcz206_2 : w201.cell? ⟨gb459, 2, none⟩ = some (.bool a1_2) := (blk_cell BK459.out 2).trans rfl; have hcz206_3 : w201.cell? ⟨gb459, 3, none⟩ = some (.string a1_3) := (blk_cell BK459.out 3).trans rfl; have hcz206_4 : w201.cell? ⟨gb459, 4, none⟩ = some (.slice A1_4 l1_4.length c1_4) := (blk_cell BK459.out 4).trans rfl; have hfz206_0 := blk_frozen BK459.out 0; have hfz206_1 := blk_frozen BK459.out 1; have hfz206_2 := blk_frozen BK459.out 2; have hfz206_3 := blk_frozen BK459.out 3; have hfz206_4 := blk_frozen BK459.out 4))
                          go_ret
                          exact ⟨by first | rfl | (simp [errW_none, errW_some] <;> rfl) | (simp [*, errW_none, errW_some] <;> rfl), by repeat (first | (with_reducible first | exact HB.out | apply below_alloc | apply pw_below_drewN | apply below_drew1 | refine below_set ?_ GE458.out | refine below_set ?_ GE459.out | refine below_set ?_ GE473.out | refine below_set ?_ GE482.out | refine below_set ?_ GE491.out | refine below_set ?_ GE513.out) | exact HB.out)⟩
                         ·rw [if_neg c174] at H
                          exact absurd H (by simp)
                        ·replace c173 := Bool.eq_false_iff.mpr c173
                         subst c173
                         have H1 : (none) = some r := by rw [if_neg (show ¬ (false = true) by decide)] at H; exact H
                         clear H
                         have H := H1
                         clear H1
                         exact absurd H (by simp)
                       ·replace c171 := Bool.eq_false_iff.mpr c171
                        subst c171
                        have H1 : (none) = some r := by rw [if_neg (show ¬ (false = true) by decide)] at H; exact H
                        clear H
                        have H := H1
                        clear H1
                        exact absurd H (by simp)
 ·replace c6 := Bool.eq_false_iff.mpr c6
  subst c6
  have H1 : (none) = some r := by rw [if_neg (show ¬ (false = true) by decide)] at H; exact H
  clear H
  have H := H1
  clear H1
  exact absurd H (by simp)

end Go.Proofs.Ytdhkcklgnnilfaa.X
