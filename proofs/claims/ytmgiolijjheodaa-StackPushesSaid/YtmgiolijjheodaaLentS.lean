-- From the printed walk of cofferlaw14_lent (xprint.py), turned by spare14.py: each version with its pairs' spare room (kP).
import Derived.Test.YtmgiolijjheodaaX0
import Derived.Test.YtmgiolijjheodaaX21
import Derived.Test.YtmgiolijjheodaaX22
import Derived.Test.YtmgiolijjheodaaSpare
namespace Go.Proofs.Ytmgiolijjheodaa.X
open Go.RowKit Go.Proofs.YtmgiolijjheodaaW.PrintWords Go.Proofs.YtmgiolijjheodaaW.PrintLast Go.Proofs.YtmgiolijjheodaaW.PrintMore
attribute [local go_sem] Go.Proofs.Ytmgiolijjheodaa.Z.leq_string Go.Proofs.Ytmgiolijjheodaa.Z.gtr_string Go.Proofs.Ytmgiolijjheodaa.Z.geq_string
set_option linter.unusedVariables false
set_option linter.unusedSimpArgs false
set_option maxHeartbeats 8000000 in
set_option maxRecDepth 100000 in
theorem cofferlaw14_lent.callsS (k : Nat) (A0 : Option Addr) (c0 : Nat) (l0 : List (S25)) (r : List (S25)) (w : World) (hr0 : Kd.C k25 w A0 l0.length l0) (hc0 : l0.length ≤ c0) (h : cofferlaw14_lent.f k l0 = some r) :
    Calls Try.prog 11 #[.slice A0 l0.length c0] w fun e w' => ∃ v0_ : Value, e = .returned (v0_) ∧ Kd.N k25 25 w' w.heap.size (fun k_ => (w.heap.size ≤ k_)) v0_ r ∧ Below w.heap.size w w' ∧ Kd.N kx 25 w' w.heap.size (fun k_ => (w.heap.size ≤ k_)) v0_ (lentL l0) := by
  have hu25 := Try.underlying25
  have HR0 := Aside0.mk hr0
  have HC0 := Aside0.mk hc0
  clear hr0 hc0
  have HB := Aside0.mk (Below.refl w.heap.size w)
  have H : (cofferlaw14_lent.l0 k l0 ([] : List (S25)) 0) = some r := h
  clear h
  have H' := Aside0.mk H
  clear H
  go_enter Try.func11, Try.ntmps11
  go_wp2
  go_loopg [3, 4] k (fun kq v3 v4 w' => ∃ (P3 : List (S25 × S25)) (x4_1 : Int), v4 = .int .i64 x4_1 ∧ Aside0 (cofferlaw14_lent.l0 kq l0 (P3.map Prod.fst) x4_1 = some r) ∧ Aside0 (0 ≤ x4_1 ∧ x4_1 ≤ (l0.length : Int) ∧ P3.map Prod.snd = (l0.take x4_1.toNat).map ext) ∧ Aside0 (kq ≤ k) ∧ Aside0 (Kd.N kP 25 w' w.heap.size (fun k_ => (w.heap.size ≤ k_)) v3 P3) ∧ Aside0 (Below w.heap.size w w'))
  case atStart => exact ⟨([] : List (S25 × S25)), (0), (by first | rfl | (simp; done) | (simp [Go.Proofs.Ytmgiolijjheodaa.Z.bne_nil, Go.Proofs.Ytmgiolijjheodaa.Z.beq_nil]; done) | (simp [*]; done)), H', ⟨by refine ⟨by omega, by omega, by simp⟩⟩, ⟨Nat.le_refl _⟩, ⟨by first | exact Kd.S_nil _ _ _ _ _ | exact Kd.N_nil _ _ _ _ _ | exact Kd.V_nil _ _ _ _ _ | exact Kd.Q_nil _ _ _ _ _ | exact Kd.R_nil _ _ _ _ _⟩, ⟨by repeat (first | (with_reducible first | exact HB.out | apply below_alloc | apply pw_below_drewN | apply below_drew1) | exact HB.out)⟩⟩
  case round =>
    clear H'
    try clear c1
    obtain ⟨P3, x4_1, rfl, HA, HP, HK1, HO_3, HB⟩ := hrel
    obtain ⟨x3_1, hx3⟩ : ∃ y_ : List S25, y_ = P3.map Prod.fst := ⟨_, rfl⟩
    rw [← hx3] at HA
    have HL3 := Aside0.mk (show P3.length = x3_1.length by rw [hx3, List.length_map])
    have HX3 := Aside0.mk hx3
    clear hx3
    cases gk with
    | zero => exact absurd HA.out (by simp [cofferlaw14_lent.l0])
    | succ k1 =>
      have H := HA.out
      clear HA
      simp only [cofferlaw14_lent.l0] at H
      by_cases c2 : x4_1 < (l0.length : Int)
      · rw [if_pos c2] at H
        have c2b0 : decide (x4_1 < (l0.length : Int)) = true := decide_eq_true c2
        clear c2
        by_cases c3 : 0 ≤ x4_1
        · rw [if_pos c3] at H
          have c3b0 : decide (0 ≤ x4_1) = true := decide_eq_true c3
          clear c3
          replace H := Option.bind_eq_some_iff.mp H
          obtain ⟨t266, A40, H⟩ := H
          replace H : (if 0 ≤ (((rd_T25 l0 x4_1).f4).length : Int) then (if (((rd_T25 l0 x4_1).f4).length : Int) ≤ (t266.length : Int) then (if x3_1.length < 1954687338268 then (cofferlaw14_lent.l0 k1 l0 (x3_1 ++ [(⟨(rd_T25 l0 x4_1).f0, (rd_T25 l0 x4_1).f1, (rd_T25 l0 x4_1).f2, (rd_T25 l0 x4_1).f3, (t266.take ((((rd_T25 l0 x4_1).f4).length : Int) : Int).toNat)⟩ : S25)]) (wrap64 (x4_1 + 1))) else (none)) else (none)) else (none)) = some r := H
          have A4 := Aside0.mk A40
          clear A40
          by_cases c5 : 0 ≤ (((rd_T25 l0 x4_1).f4).length : Int)
          · rw [if_pos c5] at H
            have c5b0 := eq_true c5
            have c5b1 : decide (0 ≤ (((rd_T25 l0 x4_1).f4).length : Int)) = true := decide_eq_true c5
            clear c5
            by_cases c6 : (((rd_T25 l0 x4_1).f4).length : Int) ≤ (t266.length : Int)
            · rw [if_pos c6] at H
              have c6b0 := eq_true c6
              have c6b1 : decide ((((rd_T25 l0 x4_1).f4).length : Int) ≤ (t266.length : Int)) = true := decide_eq_true c6
              clear c6
              obtain ⟨y269, hy269⟩ : ∃ y_ : List (S49), y_ = (t266.take ((((rd_T25 l0 x4_1).f4).length : Int) : Int).toNat) := ⟨_, rfl⟩
              replace H : (if x3_1.length < 1954687338268 then (cofferlaw14_lent.l0 k1 l0 (x3_1 ++ [(⟨(rd_T25 l0 x4_1).f0, (rd_T25 l0 x4_1).f1, (rd_T25 l0 x4_1).f2, (rd_T25 l0 x4_1).f3, y269⟩ : S25)]) (wrap64 (x4_1 + 1))) else (none)) = some r := by first | (rw [hy269]; with_reducible exact H) | (have H2_ := (Option.bind_some _ _).symm.trans H; rw [hy269]; with_reducible exact H2_) | (have H2_ := (Option.bind_some _ _).symm.trans H; with_reducible exact H2_) | with_reducible exact H | (rw [hy269]; exact H) | exact H
              have Ny269 := Aside0.mk hy269
              clear hy269
              by_cases c7 : x3_1.length < 1954687338268
              · rw [if_pos c7] at H
                have LMc7 := Aside0.mk c7
                clear c7
                obtain ⟨y274, hy274⟩ : ∃ y_ : List (S25), y_ = (x3_1 ++ [(⟨(rd_T25 l0 x4_1).f0, (rd_T25 l0 x4_1).f1, (rd_T25 l0 x4_1).f2, (rd_T25 l0 x4_1).f3, y269⟩ : S25)]) := ⟨_, rfl⟩
                replace H : (cofferlaw14_lent.l0 k1 l0 y274 (wrap64 (x4_1 + 1))) = some r := by first | (rw [hy274]; with_reducible exact H) | (have H2_ := (Option.bind_some _ _).symm.trans H; rw [hy274]; with_reducible exact H2_) | (have H2_ := (Option.bind_some _ _).symm.trans H; with_reducible exact H2_) | with_reducible exact H | (rw [hy274]; exact H) | exact H
                have Ny274 := Aside0.mk hy274
                clear hy274
                have H' := Aside0.mk H
                clear H
                have p264 : 0 ≤ (x4_1 : Int) := of_decide_eq_true (by first | (with_reducible assumption) | assumption)
                have q264 : x4_1 < (l0.length : Int) := of_decide_eq_true (by first | (with_reducible assumption) | assumption)
                obtain ⟨ad264, A264_4, c264_4, e264, hx264_0, hx264_1, hx264_2, hx264_3, hx264_4, hl264_4, hi264_4⟩ := at_T25 HR0.out x4_1 p264 q264
                cases e264
                replace hx264_0 := (HB.out.cell (World.block_lt_of_cell? w _ hx264_0)).trans hx264_0
                replace hx264_1 := (HB.out.cell (World.block_lt_of_cell? w _ hx264_1)).trans hx264_1
                replace hx264_2 := (HB.out.cell (World.block_lt_of_cell? w _ hx264_2)).trans hx264_2
                replace hx264_3 := (HB.out.cell (World.block_lt_of_cell? w _ hx264_3)).trans hx264_3
                replace hx264_4 := (HB.out.cell (World.block_lt_of_cell? w _ hx264_4)).trans hx264_4
                have HR264_4 := Aside0.mk hi264_4
                have HC264_4 := Aside0.mk hl264_4
                clear hi264_4 hl264_4
                replace p264 := eq_true p264
                replace q264 := eq_true q264
                try go_wp2_with (first | ((with_reducible refine gate_dst (N := 5) rfl ?_); refine box_event ?hg (N := 5) ?hd (cs := #[.string (⟨#[]⟩ : ByteArray), .int .i64 0, .bool false, .string (⟨#[]⟩ : ByteArray), .slice none 0 0]) (t := 25) ?hr ?_; (case hd => rfl); (case hg => rfl); (case hr => first | (go_simp; done) | (go_simp; rfl)); intro gb265 hg w8 hbox hb; have n0_ := Aside0.mk (Kd.N_below (Kd.N_elderB (by (with_reducible repeat (first | apply Kd.N_alloc | apply Kd.N_drewN | apply Kd.N_drew)); exact HO_3.out) gb265 (Nat.le_of_eq hg.symm)) hb); have n1_ := Aside0.mk (below_step (by repeat (first | (with_reducible first | exact HB.out | apply below_alloc | apply pw_below_drewN | apply below_drew1) | exact HB.out)) hb); have n2_ := Aside0.mk (hbox); have n3_ := Aside0.mk ((by rw [hg]; exact (below_size (by repeat (first | (with_reducible first | exact HB.out | apply below_alloc | apply pw_below_drewN | apply below_drew1) | exact HB.out))) : w.heap.size ≤ gb265)); have n4_ := Aside0.mk ((by rw [hg]; exact (below_size (by repeat (first | (with_reducible first | exact HB.out | apply below_alloc | apply pw_below_drewN | apply below_drew1) | exact HB.out))) : w.heap.size ≤ gb265)); clear HO_3; clear HB; have HO_3 := n0_; have HB := n1_; have BK265 := n2_; have GW265 := n3_; have GE265 := n4_; clear n0_ n1_ n2_ n3_ n4_; clear hb hbox hg; have hcz9_0 : w8.cell? ⟨gb265, 0, none⟩ = some (.string (⟨#[]⟩ : ByteArray)) := (blk_cell BK265.out 0).trans rfl; have hcz9_1 : w8.cell? ⟨gb265, 1, none⟩ = some (.int .i64 0) := (blk_cell BK265.out 1).trans rfl; have hcz9_2 : w8.cell? ⟨gb265, 2, none⟩ = some (.bool false) := (blk_cell BK265.out 2).trans rfl; have hcz9_3 : w8.cell? ⟨gb265, 3, none⟩ = some (.string (⟨#[]⟩ : ByteArray)) := (blk_cell BK265.out 3).trans rfl; have hcz9_4 : w8.cell? ⟨gb265, 4, none⟩ = some (.slice none 0 0) := (blk_cell BK265.out 4).trans rfl; have hfz9_0 := blk_frozen BK265.out 0; have hfz9_1 := blk_frozen BK265.out 1; have hfz9_2 := blk_frozen BK265.out 2; have hfz9_3 := blk_frozen BK265.out 3; have hfz9_4 := blk_frozen BK265.out 4))
                have n0_ : Aside0 (Kd.N kP 25 (((((w8.setCell ⟨gb265, 0, none⟩ (.string ((rd_T25 l0 x4_1).f0))).setCell ⟨gb265, 1, none⟩ (.int .i64 ((rd_T25 l0 x4_1).f1))).setCell ⟨gb265, 2, none⟩ (.bool ((rd_T25 l0 x4_1).f2))).setCell ⟨gb265, 3, none⟩ (.string ((rd_T25 l0 x4_1).f3))).setCell ⟨gb265, 4, none⟩ (.slice A264_4 ((rd_T25 l0 x4_1).f4).length c264_4)) w.heap.size (fun k_ => (w.heap.size ≤ k_) ∧ k_ ≠ gb265) u3 P3) := ⟨by (with_reducible repeat (first | apply Kd.N_alloc | apply Kd.N_drewN | apply Kd.N_drew)); exact Kd.N_mono (Kd.N_far (p := ⟨gb265, 4, none⟩) (Kd.N_far (p := ⟨gb265, 3, none⟩) (Kd.N_far (p := ⟨gb265, 2, none⟩) (Kd.N_far (p := ⟨gb265, 1, none⟩) (Kd.N_far (p := ⟨gb265, 0, none⟩) (Kd.N_mono HO_3.out (fun k_ hk => (⟨hk, hk.2⟩ : _ ∧ k_ ≠ gb265))) (fun _ hk => hk.2) (.string ((rd_T25 l0 x4_1).f0))) (fun _ hk => hk.2) (.int .i64 ((rd_T25 l0 x4_1).f1))) (fun _ hk => hk.2) (.bool ((rd_T25 l0 x4_1).f2))) (fun _ hk => hk.2) (.string ((rd_T25 l0 x4_1).f3))) (fun _ hk => hk.2) (.slice A264_4 ((rd_T25 l0 x4_1).f4).length c264_4)) (fun _ hk => ⟨hk.1.1, hk.1.2⟩)⟩
                have n1_ : Aside0 ((((((w8.setCell ⟨gb265, 0, none⟩ (.string ((rd_T25 l0 x4_1).f0))).setCell ⟨gb265, 1, none⟩ (.int .i64 ((rd_T25 l0 x4_1).f1))).setCell ⟨gb265, 2, none⟩ (.bool ((rd_T25 l0 x4_1).f2))).setCell ⟨gb265, 3, none⟩ (.string ((rd_T25 l0 x4_1).f3))).setCell ⟨gb265, 4, none⟩ (.slice A264_4 ((rd_T25 l0 x4_1).f4).length c264_4)).heap[gb265]? = some (.cells #[.string ((rd_T25 l0 x4_1).f0), .int .i64 ((rd_T25 l0 x4_1).f1), .bool ((rd_T25 l0 x4_1).f2), .string ((rd_T25 l0 x4_1).f3), .slice A264_4 ((rd_T25 l0 x4_1).f4).length c264_4] 25 (0, 0))) := ⟨by (with_reducible repeat (first | refine blk_drewN ?_ _ | refine blk_drew ?_ | refine blk_alloc ?_ _)); refine blk_put (cs := #[.string ((rd_T25 l0 x4_1).f0), .int .i64 ((rd_T25 l0 x4_1).f1), .bool ((rd_T25 l0 x4_1).f2), .string ((rd_T25 l0 x4_1).f3), .slice none 0 0]) ?_ 4 _ rfl; (with_reducible repeat (first | refine blk_drewN ?_ _ | refine blk_drew ?_ | refine blk_alloc ?_ _)); refine blk_put (cs := #[.string ((rd_T25 l0 x4_1).f0), .int .i64 ((rd_T25 l0 x4_1).f1), .bool ((rd_T25 l0 x4_1).f2), .string (⟨#[]⟩ : ByteArray), .slice none 0 0]) ?_ 3 _ rfl; (with_reducible repeat (first | refine blk_drewN ?_ _ | refine blk_drew ?_ | refine blk_alloc ?_ _)); refine blk_put (cs := #[.string ((rd_T25 l0 x4_1).f0), .int .i64 ((rd_T25 l0 x4_1).f1), .bool false, .string (⟨#[]⟩ : ByteArray), .slice none 0 0]) ?_ 2 _ rfl; (with_reducible repeat (first | refine blk_drewN ?_ _ | refine blk_drew ?_ | refine blk_alloc ?_ _)); refine blk_put (cs := #[.string ((rd_T25 l0 x4_1).f0), .int .i64 0, .bool false, .string (⟨#[]⟩ : ByteArray), .slice none 0 0]) ?_ 1 _ rfl; (with_reducible repeat (first | refine blk_drewN ?_ _ | refine blk_drew ?_ | refine blk_alloc ?_ _)); refine blk_put (cs := #[.string (⟨#[]⟩ : ByteArray), .int .i64 0, .bool false, .string (⟨#[]⟩ : ByteArray), .slice none 0 0]) ?_ 0 _ rfl; (with_reducible repeat (first | refine blk_drewN ?_ _ | refine blk_drew ?_ | refine blk_alloc ?_ _)); exact BK265.out⟩
                have n2_ : Aside0 (Below w.heap.size w (((((w8.setCell ⟨gb265, 0, none⟩ (.string ((rd_T25 l0 x4_1).f0))).setCell ⟨gb265, 1, none⟩ (.int .i64 ((rd_T25 l0 x4_1).f1))).setCell ⟨gb265, 2, none⟩ (.bool ((rd_T25 l0 x4_1).f2))).setCell ⟨gb265, 3, none⟩ (.string ((rd_T25 l0 x4_1).f3))).setCell ⟨gb265, 4, none⟩ (.slice A264_4 ((rd_T25 l0 x4_1).f4).length c264_4))) := ⟨by repeat (first | (with_reducible first | exact HB.out | apply below_alloc | apply pw_below_drewN | apply below_drew1 | refine below_set ?_ GE265.out) | exact HB.out)⟩
                (try clear HO_3)
                (try clear BK265)
                (try clear HB)
                generalize (((((w8.setCell ⟨gb265, 0, none⟩ (.string ((rd_T25 l0 x4_1).f0))).setCell ⟨gb265, 1, none⟩ (.int .i64 ((rd_T25 l0 x4_1).f1))).setCell ⟨gb265, 2, none⟩ (.bool ((rd_T25 l0 x4_1).f2))).setCell ⟨gb265, 3, none⟩ (.string ((rd_T25 l0 x4_1).f3))).setCell ⟨gb265, 4, none⟩ (.slice A264_4 ((rd_T25 l0 x4_1).f4).length c264_4)) = w10 at n0_ n1_ n2_ ⊢
                have HO_3 := n0_
                have BK265 := n1_
                have HB := n2_
                clear n0_ n1_ n2_
                have n0_ := Aside0.mk (Kd.N_drew HO_3.out)
                have n1_ := Aside0.mk (blk_drew BK265.out)
                have n2_ := Aside0.mk (below_drew1 HB.out)
                clear HO_3
                clear BK265
                clear HB
                have HO_3 := n0_
                have BK265 := n1_
                have HB := n2_
                clear n0_ n1_ n2_
                refine start_ (n := 9) (S := fun w' => w'.cell? ⟨gb265, 0, none⟩ = some (.string ((rd_T25 l0 x4_1).f0)) ∧ w'.cell? ⟨gb265, 1, none⟩ = some (.int .i64 ((rd_T25 l0 x4_1).f1)) ∧ w'.cell? ⟨gb265, 2, none⟩ = some (.bool ((rd_T25 l0 x4_1).f2)) ∧ w'.cell? ⟨gb265, 3, none⟩ = some (.string ((rd_T25 l0 x4_1).f3)) ∧ w'.cell? ⟨gb265, 4, none⟩ = some (.slice A264_4 ((rd_T25 l0 x4_1).f4).length c264_4)) (ds := [8]) #[false, false, false, false, false, false, false, false, false] (by kernel_rfl) rfl rfl ⟨(blk_cell BK265.out 0).trans rfl, (blk_cell BK265.out 1).trans rfl, (blk_cell BK265.out 2).trans rfl, (blk_cell BK265.out 3).trans rfl, (blk_cell BK265.out 4).trans rfl⟩ (fun hHeld => ?_); refine with_tabW cofferlaw14_lent.tab6 cofferlaw14_lent.bits6 (fun HT_ HW_ => ?_)
                generalize w10.drew = w11 at HO_3 BK265 HB hHeld ⊢
                refine pure_ (i := 0) (N := some 16) (v := ?_) (a' := ?_) #[true, false, false, false, false, false, false, false, false] rfl rfl (any_of HT_.out (by kernel_rfl)) (fun _ _ _ h => h) (Or.inl ⟨by rfl, ?_⟩) ?_ ?_
                rotate_left
                · intro w'
                  go_simp
                  with_reducible rfl
                rotate_left
                · simp only [Act.put, List.setIfInBounds_toArray, List.set_cons_zero, List.set_cons_succ, i64_w, i32_w]
                  rfl
                refine pure_ (i := 3) (N := some 19) (v := ?_) (a' := ?_) #[true, false, false, true, false, false, false, false, false] rfl rfl (any_of HT_.out (by kernel_rfl)) (fun _ _ _ h => h) (Or.inl ⟨by rfl, ?_⟩) ?_ ?_
                rotate_left
                · intro w'
                  go_simp
                  with_reducible rfl
                rotate_left
                · simp only [Act.put, List.setIfInBounds_toArray, List.set_cons_zero, List.set_cons_succ, i64_w, i32_w]
                  rfl
                refine take_ (i := 1) (N := some 17) (v := ?_) (a' := ?_) #[true, true, false, true, false, false, false, false, false] rfl rfl (take_ofW HT_.out HW_.out (by kernel_rfl)) (fun _ _ _ h => h) (Or.inl ⟨by rfl, ?_⟩) hHeld ?_ ?_
                rotate_left
                · rintro w' ⟨s0, s1, s2, s3, s4⟩
                  go_simp
                  with_reducible rfl
                rotate_left
                · simp only [Act.put, List.setIfInBounds_toArray, List.set_cons_zero, List.set_cons_succ, i64_w, i32_w]
                  rfl
                refine take_ (i := 4) (N := some 20) (v := ?_) (a' := ?_) #[true, true, false, true, true, false, false, false, false] rfl rfl (take_ofW HT_.out HW_.out (by kernel_rfl)) (fun _ _ _ h => h) (Or.inl ⟨by rfl, ?_⟩) hHeld ?_ ?_
                rotate_left
                · rintro w' ⟨s0, s1, s2, s3, s4⟩
                  go_simp
                  with_reducible rfl
                rotate_left
                · simp only [Act.put, List.setIfInBounds_toArray, List.set_cons_zero, List.set_cons_succ, i64_w, i32_w]
                  rfl
                refine pure_ (i := 5) (N := some 21) (v := ?_) (a' := ?_) #[true, true, false, true, true, true, false, false, false] rfl rfl (any_of HT_.out (by kernel_rfl)) (fun _ _ _ h => h) (Or.inl ⟨by rfl, ?_⟩) ?_ ?_
                rotate_left
                · intro w'
                  go_simp
                  with_reducible rfl
                rotate_left
                · simp only [Act.put, List.setIfInBounds_toArray, List.set_cons_zero, List.set_cons_succ, i64_w, i32_w]
                  rfl
                refine one_ (i := 2) (N := some 18) #[true, true, true, true, true, true, false, false, false] rfl rfl (one_of HT_.out (by kernel_rfl)) (by decide) (fun K hK => ?_)
                refine goes_ Try.func37 (by kernel_rfl) rfl #[.slice A264_4 ((rd_T25 l0 x4_1).f4).length c264_4] (by rfl) rfl rfl (by (try simp only [List.map_toArray, List.map_cons, List.map_nil]); first | done | rfl | (simp only [List.length_drop, List.length_take]; rfl)) ?_
                with_reducible refine (cofferlaw14_lentPairs.calls _ _ ((rd_T25 l0 x4_1).f4) t266 _ ?side1 ?side2 A4.out).mono ?_
                (case side1 => repeat (first | exact (Kd.C_below HR264_4.out HB.out) | (with_reducible refine Kd.C_alloc ?_ _) | (with_reducible refine Kd.C_drewN ?_ _) | (with_reducible refine Kd.C_drew ?_)))
                (case side2 => exact HC264_4.out)
                rintro e w12 ⟨v267, rfl, ho0, hb⟩
                refine ⟨_, rfl, ?_⟩
                have n0_ := Aside0.mk (Kd.N_elder' (by (with_reducible repeat (first | apply Kd.N_alloc | apply Kd.N_drewN | apply Kd.N_drew)); exact HO_3.out) (Kd.R_base ho0) hb)
                have n1_ := Aside0.mk (Kd.R_lower (Kd.R_newM (M := fun k_ => (w.heap.size ≤ k_)) ho0 (below_size (by repeat (first | (with_reducible first | exact HB.out | apply below_alloc | apply pw_below_drewN | apply below_drew1 | refine below_set ?_ GE265.out) | exact HB.out))) (fun k_ h_ => h_)) (below_size (by repeat (first | (with_reducible first | exact HB.out | apply below_alloc | apply pw_below_drewN | apply below_drew1 | refine below_set ?_ GE265.out) | exact HB.out))))
                have n2_ := Aside0.mk (blk_below (g := gb265) (o := .cells #[.string ((rd_T25 l0 x4_1).f0), .int .i64 ((rd_T25 l0 x4_1).f1), .bool ((rd_T25 l0 x4_1).f2), .string ((rd_T25 l0 x4_1).f3), .slice A264_4 ((rd_T25 l0 x4_1).f4).length c264_4] 25 (0, 0)) (by (with_reducible repeat (first | refine blk_drewN ?_ _ | refine blk_drew ?_ | refine blk_alloc ?_ _)); exact BK265.out) hb)
                have n3_ := Aside0.mk (below_step (by repeat (first | (with_reducible first | exact HB.out | apply below_alloc | apply pw_below_drewN | apply below_drew1 | refine below_set ?_ GE265.out) | exact HB.out)) hb)
                clear HO_3
                clear BK265
                clear HB
                have HO_3 := n0_
                have HO268 := n1_
                have BK265 := n2_
                have HB := n3_
                clear n0_ n1_ n2_ n3_
                (try clear hb)
                (try clear hb2)
                (try clear hk)
                (try clear hi)
                (try clear ho0)
                obtain ⟨Ao14, co14, eo14⟩ := Kd.R_slice HO268.out
                (first | subst eo14 | (injection eo14 with f1_ f2_ f3_; have f4_ := f1_.symm; have f5_ := f3_.symm; clear f1_ f2_ f3_; subst f4_; subst f5_))
                have q13 : ((((rd_T25 l0 x4_1).f4).length : Int) : Int) ≤ ((t266.length : Int) : Int) := of_decide_eq_true (by first | (with_reducible assumption) | assumption)
                obtain ⟨i013, hi013, _, hsz13, _⟩ := info_parts info49
                have hroom13 : t266.length ≤ co14 := (Kd.R_reads' HO268.out).2.1
                have hC13 : Kd.F k49 _ _ Ao14 t266.length t266 := (Kd.V_at (base := w.heap.size) (Kd.R_V (Kd.R_types (Kd.R_apart' (HO268.out) (Kd.N_typed HO_3.out) (by decide)) BK265.out (by decide)))).2.2
                have hcut13 := cut_to (P := Try.prog) 23 49 .i64 Try.underlying23 hi013 Ao14 t266.length co14 (((rd_T25 l0 x4_1).f4).length : Int) (of_decide_eq_true (by first | (with_reducible assumption) | assumption)) q13 hroom13
                have hr13 := Kd.F_take (m := ((((rd_T25 l0 x4_1).f4).length : Int) : Int).toNat) hC13 (by omega)
                have hy13 : y269.length = ((((rd_T25 l0 x4_1).f4).length : Int) : Int).toNat := (by rw [Ny269.out, List.length_take]; omega)
                rw [← Ny269.out] at hr13
                rw [← hy13] at hcut13
                have HO273 := Aside0.mk (show Kd.V k49 49 _ w.heap.size _ (.slice Ao14 t266.length co14) t266 from Kd.V_mk (by have := hroom13; omega) hC13)
                have HC273 := Aside0.mk (show y269.length ≤ co14 from by omega)
                clear hr13 hC13 hroom13 hi013 hsz13
                have KY13 := Aside0.mk hy13
                clear hy13
                replace q13 := eq_true q13
                refine hK.out _ _ ⟨(blk_cell BK265.out 0).trans rfl, (blk_cell BK265.out 1).trans rfl, (blk_cell BK265.out 2).trans rfl, (blk_cell BK265.out 3).trans rfl, (blk_cell BK265.out 4).trans rfl⟩ (fun hHeld => ?_)
                clear hK K
                refine norm_ (a' := ?_) ?_ ?_
                rotate_left
                · show Act.put _ (some 18) _ = _
                  simp only [Act.put, List.setIfInBounds_toArray, List.set_cons_zero, List.set_cons_succ, i64_w, i32_w]
                  rfl
                refine pure_ (i := 6) (N := some 22) (v := ?_) (a' := ?_) #[true, true, true, true, true, true, true, false, false] rfl rfl (any_of HT_.out (by kernel_rfl)) (fun _ _ _ h => h) (Or.inl ⟨by rfl, ?_⟩) ?_ ?_
                rotate_left
                · intro w'
                  go_simp
                  with_reducible rfl
                rotate_left
                · simp only [Act.put, List.setIfInBounds_toArray, List.set_cons_zero, List.set_cons_succ, i64_w, i32_w]
                  rfl
                refine pure_ (i := 7) (N := some 23) (v := ?_) (a' := ?_) #[true, true, true, true, true, true, true, true, false] rfl rfl (any_of HT_.out (by kernel_rfl)) (fun _ _ _ h => h) (Or.inl ⟨by rfl, ?_⟩) ?_ ?_
                rotate_left
                · intro w'
                  go_simp
                  with_reducible rfl
                rotate_left
                · simp only [Act.put, List.setIfInBounds_toArray, List.set_cons_zero, List.set_cons_succ, i64_w, i32_w]
                  rfl
                refine last_ (i := 8) (N := none) #[true, true, true, true, true, true, true, true, true] rfl rfl (one_of HT_.out (by kernel_rfl)) (by decide) (fun K hK => ?_)
                have hs15 : w12.cell? ⟨gb265, 4, none⟩ = some (.slice A264_4 ((rd_T25 l0 x4_1).f4).length c264_4) := (blk_cell BK265.out 4).trans rfl
                have hfs15 := blk_frozen BK265.out 4
                refine skip_ (w1 := ?_) (by rfl) rfl ?_ ?_
                rotate_left
                · go_simp
                  rfl
                refine hK.out _ _ ?_
                clear hK K
                refine done_ (done_of HT_.out (by kernel_rfl)) ?_
                have n0_ : Aside0 (Kd.N kP 25 (w12.setCell ⟨gb265, 4, none⟩ (.slice Ao14 y269.length co14)) w.heap.size (fun k_ => (w.heap.size ≤ k_) ∧ some k_ ≠ (.slice Ao14 t266.length co14 : Value).ownBlock ∧ k_ ≠ gb265) u3 P3) := ⟨by (with_reducible repeat (first | apply Kd.N_alloc | apply Kd.N_drewN | apply Kd.N_drew)); exact Kd.N_mono (Kd.N_far (p := ⟨gb265, 4, none⟩) (Kd.N_mono HO_3.out (fun k_ hk => (⟨hk, hk.1.2⟩ : _ ∧ k_ ≠ gb265))) (fun _ hk => hk.2) (.slice Ao14 y269.length co14)) (fun _ hk => ⟨hk.1.1.1, ⟨hk.1.2, hk.1.1.2⟩⟩)⟩
                have n1_ : Aside0 (Kd.R k49 49 (w12.setCell ⟨gb265, 4, none⟩ (.slice Ao14 y269.length co14)) w.heap.size (fun k_ => (w.heap.size ≤ k_)) (.slice Ao14 t266.length co14) t266) := ⟨by (with_reducible repeat (first | apply Kd.R_alloc | apply Kd.R_drewN | apply Kd.R_drew)); exact Kd.R_mono (Kd.R_far (p := ⟨gb265, 4, none⟩) (Kd.R_types HO268.out BK265.out (by decide)) (fun _ hk => hk.2) (.slice Ao14 y269.length co14)) (fun _ hk => hk.1.1)⟩
                have n2_ : Aside0 (Kd.V k49 49 (w12.setCell ⟨gb265, 4, none⟩ (.slice Ao14 y269.length co14)) w.heap.size (fun k_ => (w.heap.size ≤ k_) ∧ some k_ ≠ (u3 : Value).ownBlock ∧ k_ ≠ gb265) (.slice Ao14 t266.length co14) t266) := ⟨by (with_reducible repeat (first | apply Kd.V_alloc | apply Kd.V_drewN | apply Kd.V_drew)); exact Kd.V_mono (Kd.V_far (p := ⟨gb265, 4, none⟩) (Kd.V_mono HO273.out (fun k_ hk => (⟨hk, hk.2⟩ : _ ∧ k_ ≠ gb265))) (fun _ hk => hk.2) (.slice Ao14 y269.length co14)) (fun _ hk => ⟨hk.1.1.1.1, ⟨hk.1.1.2, hk.1.2⟩⟩)⟩
                have n3_ : Aside0 ((w12.setCell ⟨gb265, 4, none⟩ (.slice Ao14 y269.length co14)).heap[gb265]? = some (.cells #[.string ((rd_T25 l0 x4_1).f0), .int .i64 ((rd_T25 l0 x4_1).f1), .bool ((rd_T25 l0 x4_1).f2), .string ((rd_T25 l0 x4_1).f3), .slice Ao14 y269.length co14] 25 (0, 0))) := ⟨by (with_reducible repeat (first | refine blk_drewN ?_ _ | refine blk_drew ?_ | refine blk_alloc ?_ _)); refine blk_put (cs := #[.string ((rd_T25 l0 x4_1).f0), .int .i64 ((rd_T25 l0 x4_1).f1), .bool ((rd_T25 l0 x4_1).f2), .string ((rd_T25 l0 x4_1).f3), .slice A264_4 ((rd_T25 l0 x4_1).f4).length c264_4]) ?_ 4 _ rfl; (with_reducible repeat (first | refine blk_drewN ?_ _ | refine blk_drew ?_ | refine blk_alloc ?_ _)); exact BK265.out⟩
                have n4_ : Aside0 (Below w.heap.size w (w12.setCell ⟨gb265, 4, none⟩ (.slice Ao14 y269.length co14))) := ⟨by repeat (first | (with_reducible first | exact HB.out | apply below_alloc | apply pw_below_drewN | apply below_drew1 | refine below_set ?_ GE265.out) | exact HB.out)⟩
                (try clear HO_3)
                (try clear HO268)
                (try clear HO273)
                (try clear BK265)
                (try clear HB)
                generalize (w12.setCell ⟨gb265, 4, none⟩ (.slice Ao14 y269.length co14)) = w16 at n0_ n1_ n2_ n3_ n4_ ⊢
                have HO_3 := n0_
                have HO268 := n1_
                have HO273 := n2_
                have BK265 := n3_
                have HB := n4_
                clear n0_ n1_ n2_ n3_ n4_
                have hcz17_0 : w16.cell? ⟨gb265, 0, none⟩ = some (.string ((rd_T25 l0 x4_1).f0)) := (blk_cell BK265.out 0).trans rfl
                have hcz17_1 : w16.cell? ⟨gb265, 1, none⟩ = some (.int .i64 ((rd_T25 l0 x4_1).f1)) := (blk_cell BK265.out 1).trans rfl
                have hcz17_2 : w16.cell? ⟨gb265, 2, none⟩ = some (.bool ((rd_T25 l0 x4_1).f2)) := (blk_cell BK265.out 2).trans rfl
                have hcz17_3 : w16.cell? ⟨gb265, 3, none⟩ = some (.string ((rd_T25 l0 x4_1).f3)) := (blk_cell BK265.out 3).trans rfl
                have hcz17_4 : w16.cell? ⟨gb265, 4, none⟩ = some (.slice Ao14 y269.length co14) := (blk_cell BK265.out 4).trans rfl
                have hfz17_0 := blk_frozen BK265.out 0
                have hfz17_1 := blk_frozen BK265.out 1
                have hfz17_2 := blk_frozen BK265.out 2
                have hfz17_3 := blk_frozen BK265.out 3
                have hfz17_4 := blk_frozen BK265.out 4
                try go_wp2_with (first | ((with_reducible refine gate_builtin (b := .append) (xs := #[.tmp 24, .tmp 26]) rfl ?_); at_builtin; refine Kd.N_append kP (w0 := w) w.heap.size rfl (.tmp 24) (.tmp 26) 22 25 (.agg #[(.string ⟨#[]⟩), (.int .i64 0), (.bool false), (.string ⟨#[]⟩), (.slice none 0 0)]) 72 rfl Try.underlying22 info25 rfl (by decide) (by omega) u3 P3 ((⟨(rd_T25 l0 x4_1).f0, (rd_T25 l0 x4_1).f1, (rd_T25 l0 x4_1).f2, (rd_T25 l0 x4_1).f3, y269⟩ : S25), (⟨(rd_T25 l0 x4_1).f0, (rd_T25 l0 x4_1).f1, (rd_T25 l0 x4_1).f2, (rd_T25 l0 x4_1).f3, t266⟩ : S25)) [.string ((rd_T25 l0 x4_1).f0), .int .i64 ((rd_T25 l0 x4_1).f1), .bool ((rd_T25 l0 x4_1).f2), .string ((rd_T25 l0 x4_1).f3), .slice Ao14 y269.length co14] (fun k_ => (w.heap.size ≤ k_) ∧ k_ ≠ gb265) (fun k_ => ((fun k_ => (w.heap.size ≤ k_) ∧ k_ ≠ gb265)) k_ ∧ some k_ ≠ (u3 : Value).ownBlock) rfl rfl ?aP (fun _ hk => hk) ?aF ?aO ?aB ?aS ?aL ?_; (case aP => exact (kP_mkF _ _ (⟨(rd_T25 l0 x4_1).f0, (rd_T25 l0 x4_1).f1, (rd_T25 l0 x4_1).f2, (rd_T25 l0 x4_1).f3, y269⟩ : S25) t266 (by show y269 = t266.take y269.length; rw [KY13.out]; exact Ny269.out) (by have h_ := congrArg List.length Ny269.out; rw [List.length_take] at h_; show y269.length ≤ _; omega) (Kd.V_reads' (Kd.V_mono (ok' := (fun k_ => ((fun k_ => (w.heap.size ≤ k_) ∧ k_ ≠ gb265)) k_ ∧ some k_ ≠ (u3 : Value).ownBlock)) (HO273.out) (fun k_ hk => ⟨⟨hk.1, hk.2.2⟩, hk.2.1⟩))).2.1 (Kd.V_F (Kd.V_mono (ok' := (fun k_ => ((fun k_ => (w.heap.size ≤ k_) ∧ k_ ≠ gb265)) k_ ∧ some k_ ≠ (u3 : Value).ownBlock)) (HO273.out) (fun k_ hk => ⟨⟨hk.1, hk.2.2⟩, hk.2.1⟩))))); (case aB => exact (by repeat (first | (with_reducible first | exact HB.out | apply below_alloc | apply pw_below_drewN | apply below_drew1 | refine below_set ?_ GE265.out) | exact HB.out))); (case aF => exact (fun k_ hk => ⟨(Nat.le_trans (below_size (by repeat (first | (with_reducible first | exact HB.out | apply below_alloc | apply pw_below_drewN | apply below_drew1 | refine below_set ?_ GE265.out) | exact HB.out))) hk), Kd.freshB (g := gb265) (o := .cells #[.string ((rd_T25 l0 x4_1).f0), .int .i64 ((rd_T25 l0 x4_1).f1), .bool ((rd_T25 l0 x4_1).f2), .string ((rd_T25 l0 x4_1).f3), .slice Ao14 y269.length co14] 25 (0, 0)) (by (with_reducible repeat (first | refine blk_drewN ?_ _ | refine blk_drew ?_ | refine blk_alloc ?_ _)); exact BK265.out) k_ hk⟩)); (case aO => exact (by (with_reducible repeat (first | apply Kd.N_alloc | apply Kd.N_drewN | apply Kd.N_drew)); exact Kd.N_mono HO_3.out (fun _ hk => ⟨hk.1, hk.2.2⟩))); (case aS => exact (below_size (by repeat (first | (with_reducible first | exact HB.out | apply below_alloc | apply pw_below_drewN | apply below_drew1 | refine below_set ?_ GE265.out) | exact HB.out)))); (case aL => have := LMc7.out; have := HL3.out; omega); intro v275 w18 ho hb hg hat; have n0_ := Aside0.mk (blk_grown (g := gb265) (o := .cells #[.string ((rd_T25 l0 x4_1).f0), .int .i64 ((rd_T25 l0 x4_1).f1), .bool ((rd_T25 l0 x4_1).f2), .string ((rd_T25 l0 x4_1).f3), .slice Ao14 y269.length co14] 25 (0, 0)) (by (with_reducible repeat (first | refine blk_drewN ?_ _ | refine blk_drew ?_ | refine blk_alloc ?_ _)); exact BK265.out) hg (Kd.N_away HO_3.out (fun _ hk => hk.2.2))); have n1_ := Aside0.mk (Kd.R_over' (by (with_reducible repeat (first | apply Kd.R_alloc | apply Kd.R_drewN | apply Kd.R_drew)); exact HO268.out) (Kd.N_typed (by (with_reducible repeat (first | apply Kd.N_alloc | apply Kd.N_drewN | apply Kd.N_drew)); exact HO_3.out)) (by decide) hg); have n2_ := Aside0.mk (Kd.V_afterv (ok := (fun k_ => (w.heap.size ≤ k_) ∧ k_ ≠ gb265)) (by (with_reducible repeat (first | apply Kd.V_alloc | apply Kd.V_drewN | apply Kd.V_drew)); exact Kd.V_mono HO273.out (fun _ hk => ⟨⟨hk.1, hk.2.2⟩, hk.2.1⟩)) hg hat); have n3_ := Aside0.mk (hb); have n4_ := Aside0.mk (ho); clear BK265; clear HO268; clear HO273; clear HB; clear HO_3; have BK265 := n0_; have HO268 := n1_; have HO273 := n2_; have HB := n3_; have HO276 := n4_; clear n0_ n1_ n2_ n3_ n4_; clear ho hb hg hat))
                go_roundg k1
                case measure => have := HK1.out; omega
                case rel => exact ⟨(P3 ++ [((⟨(rd_T25 l0 x4_1).f0, (rd_T25 l0 x4_1).f1, (rd_T25 l0 x4_1).f2, (rd_T25 l0 x4_1).f3, y269⟩ : S25), (⟨(rd_T25 l0 x4_1).f0, (rd_T25 l0 x4_1).f1, (rd_T25 l0 x4_1).f2, (rd_T25 l0 x4_1).f3, t266⟩ : S25))]), (wrap64 (x4_1 + 1)), (by first | rfl | (simp; done) | (simp [Go.Proofs.Ytmgiolijjheodaa.Z.bne_nil, Go.Proofs.Ytmgiolijjheodaa.Z.beq_nil]; done) | (simp [*]; done)), ⟨by rw [List.map_append]; have h_ := H'.out; rw [Ny274.out, HX3.out] at h_; exact h_⟩, ⟨lent_step _ HP.out (by assumption) HR0.out.2.1 A4.out⟩, ⟨by have := HK1.out; omega⟩, ⟨by (with_reducible repeat (first | apply Kd.N_alloc | apply Kd.N_drewN | apply Kd.N_drew)); exact Kd.N_mono HO276.out (fun _ hk => hk.1)⟩, ⟨by repeat (first | (with_reducible first | exact HB.out | apply below_alloc | apply pw_below_drewN | apply below_drew1 | refine below_set ?_ GE265.out) | exact HB.out)⟩⟩
              · rw [if_neg c7] at H
                exact absurd H (by simp)
            · rw [if_neg c6] at H
              exact absurd H (by simp)
          · rw [if_neg c5] at H
            exact absurd H (by simp)
        · rw [if_neg c3] at H
          exact absurd H (by simp)
      · rw [if_neg c2] at H
        have c2b0 : decide (x4_1 < (l0.length : Int)) = false := decide_eq_false c2
        clear c2
        obtain ⟨y277, hy277⟩ : ∃ y_ : List (S25), y_ = (([(⟨(⟨#[109, 97, 114, 107]⟩ : ByteArray), (-77), false, (⟨#[]⟩ : ByteArray), ([] : List (S49))⟩ : S25), (⟨(⟨#[]⟩ : ByteArray), 0, false, (⟨#[109, 97, 114, 107]⟩ : ByteArray), ([] : List (S49))⟩ : S25)] : List (S25))) := ⟨_, rfl⟩
        replace H : (if x3_1.length + y277.length < 1954687338268 then (some (x3_1 ++ y277)) else (none)) = some r := by first | (rw [hy277]; with_reducible exact H) | (have H2_ := (Option.bind_some _ _).symm.trans H; rw [hy277]; with_reducible exact H2_) | (have H2_ := (Option.bind_some _ _).symm.trans H; with_reducible exact H2_) | with_reducible exact H | (rw [hy277]; exact H) | exact H
        have Ny277 := Aside0.mk hy277
        obtain ⟨Y277, hY277⟩ : ∃ y_ : List (S25 × S25), y_ = [((⟨(⟨#[109, 97, 114, 107]⟩ : ByteArray), (-77), false, (⟨#[]⟩ : ByteArray), ([] : List (S49))⟩ : S25), (⟨(⟨#[109, 97, 114, 107]⟩ : ByteArray), (-77), false, (⟨#[]⟩ : ByteArray), ([] : List (S49))⟩ : S25)), ((⟨(⟨#[]⟩ : ByteArray), 0, false, (⟨#[109, 97, 114, 107]⟩ : ByteArray), ([] : List (S49))⟩ : S25), (⟨(⟨#[]⟩ : ByteArray), 0, false, (⟨#[109, 97, 114, 107]⟩ : ByteArray), ([] : List (S49))⟩ : S25))] := ⟨_, rfl⟩
        have HLY := Aside0.mk (show Y277.length = y277.length by rw [hY277, hy277]; rfl)
        have NY277 := Aside0.mk hY277
        clear hY277
        clear hy277
        by_cases c19 : x3_1.length + y277.length < 1954687338268
        · rw [if_pos c19] at H
          have LMc19 := Aside0.mk c19
          clear c19
          obtain ⟨y280, hy280⟩ : ∃ y_ : List (S25), y_ = (x3_1 ++ y277) := ⟨_, rfl⟩
          replace H : (some y280) = some r := by first | (rw [hy280]; with_reducible exact H) | (have H2_ := (Option.bind_some _ _).symm.trans H; rw [hy280]; with_reducible exact H2_) | (have H2_ := (Option.bind_some _ _).symm.trans H; with_reducible exact H2_) | with_reducible exact H | (rw [hy280]; exact H) | exact H
          have Ny280 := Aside0.mk hy280
          clear hy280
          obtain rfl := Option.some.inj H
          go_wp2_with (first | ((with_reducible refine gate_dst (N := 31) rfl ?_); refine Kd.N_lit kP _ 25 ?hg (N' := 31) ?hd (xs := ([((⟨(⟨#[109, 97, 114, 107]⟩ : ByteArray), (-77), false, (⟨#[]⟩ : ByteArray), ([] : List (S49))⟩ : S25), (⟨(⟨#[109, 97, 114, 107]⟩ : ByteArray), (-77), false, (⟨#[]⟩ : ByteArray), ([] : List (S49))⟩ : S25)), ((⟨(⟨#[]⟩ : ByteArray), 0, false, (⟨#[109, 97, 114, 107]⟩ : ByteArray), ([] : List (S49))⟩ : S25), (⟨(⟨#[]⟩ : ByteArray), 0, false, (⟨#[109, 97, 114, 107]⟩ : ByteArray), ([] : List (S49))⟩ : S25))] : List (S25 × S25))) (inner := [.string (⟨#[109, 97, 114, 107]⟩ : ByteArray), .int .i64 (-77), .bool false, .string (⟨#[]⟩ : ByteArray), .slice none 0 0, .string (⟨#[]⟩ : ByteArray), .int .i64 0, .bool false, .string (⟨#[109, 97, 114, 107]⟩ : ByteArray), .slice none 0 0]) (ok := (fun k_ => (w.heap.size ≤ k_) ∧ some k_ ≠ (u3 : Value).ownBlock)) (okp := (fun k_ => (w.heap.size ≤ k_) ∧ some k_ ≠ (u3 : Value).ownBlock)) ?hr ?hp (fun _ hk => hk) ((show ∀ k_, wr.heap.size ≤ k_ → (fun k_ => (w.heap.size ≤ k_) ∧ some k_ ≠ (u3 : Value).ownBlock) k_ from fun k_ hk => ⟨(Nat.le_trans (below_size (by repeat (first | (with_reducible first | exact HB.out | apply below_alloc | apply pw_below_drewN | apply below_drew1) | exact HB.out))) hk), Kd.fresh' (Kd.N_lt (by (with_reducible repeat (first | apply Kd.N_alloc | apply Kd.N_drewN | apply Kd.N_drew)); exact HO_3.out)) k_ hk⟩) _ (Nat.le_refl _)) (Below.refl _ _) (Nat.le_refl _) (by simp) ?_; (case hd => rfl); (case hg => rfl); (case hr => first | (go_simp; done) | (go_simp; rfl)); (case hp => exact (Reps.c5 (show Kd.FK kP _ _ ((⟨(⟨#[109, 97, 114, 107]⟩ : ByteArray), (-77), false, (⟨#[]⟩ : ByteArray), ([] : List (S49))⟩ : S25), (⟨(⟨#[109, 97, 114, 107]⟩ : ByteArray), (-77), false, (⟨#[]⟩ : ByteArray), ([] : List (S49))⟩ : S25)) [.string (⟨#[109, 97, 114, 107]⟩ : ByteArray), .int .i64 (-77), .bool false, .string (⟨#[]⟩ : ByteArray), .slice none 0 0] from (kP_mkF _ _ (⟨(⟨#[109, 97, 114, 107]⟩ : ByteArray), (-77), false, (⟨#[]⟩ : ByteArray), ([] : List (S49))⟩ : S25) ([] : List S49) rfl (Nat.le_refl _) (Nat.le_refl _) (Kd.F_nil _ _ _))) (Reps.c5 (show Kd.FK kP _ _ ((⟨(⟨#[]⟩ : ByteArray), 0, false, (⟨#[109, 97, 114, 107]⟩ : ByteArray), ([] : List (S49))⟩ : S25), (⟨(⟨#[]⟩ : ByteArray), 0, false, (⟨#[109, 97, 114, 107]⟩ : ByteArray), ([] : List (S49))⟩ : S25)) [.string (⟨#[]⟩ : ByteArray), .int .i64 0, .bool false, .string (⟨#[109, 97, 114, 107]⟩ : ByteArray), .slice none 0 0] from (kP_mkF _ _ (⟨(⟨#[]⟩ : ByteArray), 0, false, (⟨#[109, 97, 114, 107]⟩ : ByteArray), ([] : List (S49))⟩ : S25) ([] : List S49) rfl (Nat.le_refl _) (Nat.le_refl _) (Kd.F_nil _ _ _))) (Reps.none _ _)))); intro v278 w20 ho21 hb hg_ hnew_; clear hg_ hnew_; rw [← NY277.out] at ho21; have n0_ := Aside0.mk (Kd.N_elder' (by (with_reducible repeat (first | apply Kd.N_alloc | apply Kd.N_drewN | apply Kd.N_drew)); exact HO_3.out) (Kd.N_base ho21) hb); have n1_ := Aside0.mk (Kd.N_lower ho21 (below_size (by repeat (first | (with_reducible first | exact HB.out | apply below_alloc | apply pw_below_drewN | apply below_drew1) | exact HB.out)))); have n2_ := Aside0.mk (below_step (by repeat (first | (with_reducible first | exact HB.out | apply below_alloc | apply pw_below_drewN | apply below_drew1) | exact HB.out)) hb); clear HO_3; clear HB; have HO_3 := n0_; have HO279 := n1_; have HB := n2_; clear n0_ n1_ n2_; clear hb ho21; obtain ⟨Ao23, co23, eo23⟩ := Kd.N_slice HO279.out; subst eo23) | ((with_reducible refine gate_builtin (b := .append) (xs := #[.tmp 28, .tmp 31]) rfl ?_); at_builtin; refine Kd.N_append_rows kP (w0 := w) w.heap.size rfl (.tmp 28) (.tmp 31) 22 25 (.agg #[(.string ⟨#[]⟩), (.int .i64 0), (.bool false), (.string ⟨#[]⟩), (.slice none 0 0)]) 72 rfl Try.underlying22 info25 rfl (by decide) (by omega) u3 P3 Y277 _ _ _ (fun k_ => (w.heap.size ≤ k_)) (fun k_ => ((fun k_ => (w.heap.size ≤ k_))) k_ ∧ some k_ ≠ (u3 : Value).ownBlock) rfl rfl ?aO ?aR (fun _ hk => hk) ?aF ?aB ?aS ?aL ?_; (case aR => exact (by skip; exact Kd.N_F (Kd.N_mono (ok' := (fun k_ => ((fun k_ => (w.heap.size ≤ k_))) k_ ∧ some k_ ≠ (u3 : Value).ownBlock)) (HO279.out) (fun k_ hk => ⟨hk.1, hk.2⟩)))); (case aB => exact (by repeat (first | (with_reducible first | exact HB.out | apply below_alloc | apply pw_below_drewN | apply below_drew1) | exact HB.out))); (case aF => exact (fun k_ hk => (Nat.le_trans (below_size (by repeat (first | (with_reducible first | exact HB.out | apply below_alloc | apply pw_below_drewN | apply below_drew1) | exact HB.out))) hk))); (case aO => exact (by (with_reducible repeat (first | apply Kd.N_alloc | apply Kd.N_drewN | apply Kd.N_drew)); exact Kd.N_mono HO_3.out (fun _ hk => hk.1))); (case aS => exact (below_size (by repeat (first | (with_reducible first | exact HB.out | apply below_alloc | apply pw_below_drewN | apply below_drew1) | exact HB.out)))); (case aL => have := LMc19.out; have := HL3.out; have := HLY.out; omega); intro v281 w22 ho hb hg hat; have n0_ := Aside0.mk (Kd.N_afterv (ok := (fun k_ => (w.heap.size ≤ k_))) (by (with_reducible repeat (first | apply Kd.N_alloc | apply Kd.N_drewN | apply Kd.N_drew)); exact HO279.out) hg hat); have n1_ := Aside0.mk (hb); have n2_ := Aside0.mk (ho); clear HO279; clear HB; clear HO_3; have HO279 := n0_; have HB := n1_; have HO282 := n2_; clear n0_ n1_ n2_; clear ho hb hg hat))
          go_ret
          exact ⟨_, by first | rfl | (simp [errW_none, errW_some] <;> rfl) | (simp [*, errW_none, errW_some] <;> rfl), (by rw [show y280 = (P3 ++ Y277).map Prod.fst by rw [Ny280.out, List.map_append, HX3.out, Ny277.out, NY277.out]; rfl]; exact Kd.N_map (d := kP) (d' := k25) Prod.fst rfl (fun _ _ _ h => h.1) (by (with_reducible repeat (first | apply Kd.N_alloc | apply Kd.N_drewN | apply Kd.N_drew)); exact HO282.out)), by repeat (first | (with_reducible first | exact HB.out | apply below_alloc | apply pw_below_drewN | apply below_drew1) | exact HB.out), (by rw [show lentL l0 = (P3 ++ Y277).map Prod.snd by rw [NY277.out]; exact lent_end HP.out (by assumption)]; exact Kd.N_map (d := kP) (d' := kx) Prod.snd rfl (fun _ _ _ h => h.2) (by (with_reducible repeat (first | apply Kd.N_alloc | apply Kd.N_drewN | apply Kd.N_drew)); exact HO282.out))⟩
        · rw [if_neg c19] at H
          exact absurd H (by simp)

end Go.Proofs.Ytmgiolijjheodaa.X
