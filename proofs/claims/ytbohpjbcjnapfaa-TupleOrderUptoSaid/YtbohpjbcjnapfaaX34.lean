-- By a program of this session (wip/xprint.py over the kit's print).
import Derived.Test.YtbohpjbcjnapfaaX0
import Derived.Test.YtbohpjbcjnapfaaX32
import Derived.Test.YtbohpjbcjnapfaaX33
namespace Go.Proofs.Ytbohpjbcjnapfaa.X
open Go.RowKit Go.Proofs.YtbohpjbcjnapfaaW.PrintWords Go.Proofs.YtbohpjbcjnapfaaW.PrintLast Go.Proofs.YtbohpjbcjnapfaaW.PrintMore
attribute [local go_sem] max2_int min2_int max_two min_two max_three min_three max_four min_four Go.Proofs.Ytbohpjbcjnapfaa.Z.leq_string Go.Proofs.Ytbohpjbcjnapfaa.Z.gtr_string Go.Proofs.Ytbohpjbcjnapfaa.Z.geq_string   -- for this text's walks alone
set_option linter.unusedVariables false
set_option linter.unusedSimpArgs false

/-! ### tuple_part: function 38 -/
def tuple_part.j0 : Nat → ByteArray → Int → Bool → Option (Int × ByteArray × Int × ByteArray × Bool)
  | 0, _, _, _ => none
  | k + 1, x0, x5, x28 => if x28 = true then (some (0, (⟨#[]⟩ : ByteArray), 0, (⟨#[]⟩ : ByteArray), false)) else ((tuple_value.f k x0).bind fun t134 => (if x5 = 3 then (if 8 ≤ (x0.size : Int) then (some (x5, (⟨#[]⟩ : ByteArray), wrap64 (Go.bits .xor .u64 (Go.bits .xor .u64 18446744073709551615 t134) 9223372036854775808), x0.extract 8 x0.size, true)) else (none)) else (if 8 ≤ (x0.size : Int) then (some (x5, (⟨#[]⟩ : ByteArray), wrap64 (Go.bits .xor .u64 t134 9223372036854775808), x0.extract 8 x0.size, true)) else (none))))
def tuple_part.f (k : Nat) (a0 : ByteArray) : Option (Int × ByteArray × Int × ByteArray × Bool) := if 0 < (a0.size : Int) then (if 1 ≤ (a0.size : Int) then (if (wrap64 (bt a0 0)) = 1 then ((tuple_reads.f (a0.extract 1 a0.size)).bind fun bt131 => (some (1, bt131.1, 0, bt131.2.1, bt131.2.2))) else (if (wrap64 (bt a0 0)) = 2 then (tuple_part.j0 k (a0.extract 1 a0.size) (wrap64 (bt a0 0)) (decide (((a0.extract 1 a0.size).size : Int) < 8))) else (if (wrap64 (bt a0 0)) = 3 then (tuple_part.j0 k (a0.extract 1 a0.size) (wrap64 (bt a0 0)) (decide (((a0.extract 1 a0.size).size : Int) < 8))) else (tuple_part.j0 k (a0.extract 1 a0.size) (wrap64 (bt a0 0)) true)))) else (none)) else (none)
theorem tuple_part.mono_l : ∀ k, (∀ y0 y1 y2, LeO (tuple_part.j0 k y0 y1 y2) (tuple_part.j0 (k + 1) y0 y1 y2))
  | 0 => fun _ _ _ r h => by simp [tuple_part.j0] at h
  | k + 1 => by
    have ih0 := tuple_part.mono_l k
    · intro y0 y1 y2
      unfold tuple_part.j0
      repeat' first
      | (with_reducible exact ih0 _ _ _)
      | (with_reducible exact tuple_value.mono _ _)
      | (with_reducible exact LeO.refl _)
      | (with_reducible exact LeO.none _)
      | (with_reducible refine LeO.ite ?_ ?_)
      | (with_reducible refine LeO.bind ?_ (fun _ => ?_))
      | exact ih0 _ _ _
      | exact tuple_value.mono _ _
      | exact LeO.none _
      | refine LeO.ite ?_ ?_
      | refine LeO.bind ?_ (fun _ => ?_)
theorem tuple_part.mono : ∀ a0 k, LeO (tuple_part.f k a0) (tuple_part.f (k + 1) a0) := by
  intro a0 k
  have ih0 := tuple_part.mono_l k
  unfold tuple_part.f
  repeat' first
      | (with_reducible exact ih0 _ _ _)
      | (with_reducible exact tuple_value.mono _ _)
      | (with_reducible exact LeO.refl _)
      | (with_reducible exact LeO.none _)
      | (with_reducible refine LeO.ite ?_ ?_)
      | (with_reducible refine LeO.bind ?_ (fun _ => ?_))
      | exact ih0 _ _ _
      | exact tuple_value.mono _ _
      | exact LeO.none _
      | refine LeO.ite ?_ ?_
      | refine LeO.bind ?_ (fun _ => ?_)
def tuple_part.T11 : Bool × List (List Nat × List Nat) := (true, [([], []), ([], []), ([1], [1]), ([2], [2]), ([0, 3], [0, 3]), ([], []), ([5], [5]), ([4, 0, 1, 2, 3, 4], [4]), ([6, 7, 0, 1, 2, 3, 4, 5, 6, 7], [6]), ([8, 0, 1, 2, 3, 4, 5, 6, 7, 8], [])])
def tuple_part.B11 : List Nat := [0, 0, 2, 6, 15, 0, 32, 31, 255, 511]
theorem tuple_part.tab11 : rtab .any (opsOf Try.f38 11) = tuple_part.T11 := by kernel_rfl
theorem tuple_part.bits11 : waitsOk tuple_part.T11.2 tuple_part.B11 = true := by kernel_rfl
set_option maxHeartbeats 8000000 in
set_option maxRecDepth 100000 in
theorem tuple_part.calls (k : Nat) (a0 : ByteArray) (r1 : Int) (r2 : ByteArray) (r3 : Int) (r4 : ByteArray) (r5 : Bool) (w : World) (h : tuple_part.f k a0 = some (r1, r2, r3, r4, r5)) :
    Calls Try.prog 38 #[.string a0] w fun e w' => e = .returned (.tuple #[.agg #[.int .i64 r1, .string r2, .int .i64 r3], .string r4, .bool r5]) ∧ Below w.heap.size w w' := by
  have hu52 := Try.underlying52
  have HB := Aside0.mk (Below.refl w.heap.size w)
  have H : (if 0 < (a0.size : Int) then (if 1 ≤ (a0.size : Int) then (if (wrap64 (bt a0 0)) = 1 then ((tuple_reads.f (a0.extract 1 a0.size)).bind fun bt131 => (some (1, bt131.1, 0, bt131.2.1, bt131.2.2))) else (if (wrap64 (bt a0 0)) = 2 then (tuple_part.j0 k (a0.extract 1 a0.size) (wrap64 (bt a0 0)) (decide (((a0.extract 1 a0.size).size : Int) < 8))) else (if (wrap64 (bt a0 0)) = 3 then (tuple_part.j0 k (a0.extract 1 a0.size) (wrap64 (bt a0 0)) (decide (((a0.extract 1 a0.size).size : Int) < 8))) else (tuple_part.j0 k (a0.extract 1 a0.size) (wrap64 (bt a0 0)) true)))) else (none)) else (none)) = some (r1, r2, r3, r4, r5) := h
  clear h
  by_cases c2 : 0 < (a0.size : Int)
  · rw [if_pos c2] at H
    have c2b0 : decide (0 < (a0.size : Int)) = true := decide_eq_true c2
    have c2b1 : decide (0 < a0.size) = true := decide_eq_true (by omega)
    clear c2
    by_cases c4 : 1 ≤ (a0.size : Int)
    · rw [if_pos c4] at H
      have c4b0 := eq_true c4
      have c4b1 : decide (1 ≤ (a0.size : Int)) = true := decide_eq_true c4
      clear c4
      by_cases c5 : (wrap64 (bt a0 0)) = 1
      · rw [if_pos c5] at H
        have c5b0 : ((wrap64 (bt a0 0)) == 1) = true := beq_iff_eq.mpr c5
        have c5b1 : ((wrap64 (bt a0 0)) != 1) = false := bne_eq_false_iff_eq.mpr c5
        clear c5
        replace H := Option.bind_eq_some_iff.mp H
        obtain ⟨⟨t131, t132, t133⟩, A60, H⟩ := H
        replace H : (some (1, t131, 0, t132, t133)) = some (r1, r2, r3, r4, r5) := H
        have A6 := Aside0.mk A60
        clear A60
        simp only [Option.some.injEq, Prod.mk.injEq] at H
        obtain ⟨rfl, rfl, rfl, rfl, rfl⟩ := H
        go_enter Try.func38, Try.ntmps38
        go_wp2_with (first | ((with_reducible refine gate_dst (N := 2) rfl ?_); (try (refine gate_guard (by rfl) ?_; dsimp only)); refine box_event ?hg (N := 2) ?hd (cs := #[.int .i64 0, .string (⟨#[]⟩ : ByteArray), .int .i64 0]) (t := 52) ?hr ?_; (case hd => rfl); (case hg => rfl); (case hr => first | (go_simp; done) | (go_simp; rfl)); intro gb130 hg w7 hbox hb; have n0_ := Aside0.mk (below_step (by repeat (first | (with_reducible first | exact HB.out | apply below_alloc | apply pw_below_drewN | apply below_drew1) | exact HB.out)) hb); have n1_ := Aside0.mk (hbox); have n2_ := Aside0.mk ((by rw [hg]; exact (below_size (by repeat (first | (with_reducible first | exact HB.out | apply below_alloc | apply pw_below_drewN | apply below_drew1) | exact HB.out))) : w.heap.size ≤ gb130)); have n3_ := Aside0.mk ((by rw [hg]; exact (below_size (by repeat (first | (with_reducible first | exact HB.out | apply below_alloc | apply pw_below_drewN | apply below_drew1) | exact HB.out))) : w.heap.size ≤ gb130)); clear HB; have HB := n0_; have BK130 := n1_; have GW130 := n2_; have GE130 := n3_; clear n0_ n1_ n2_ n3_; clear hb hbox hg; have p3 : 0 ≤ (0 : Int) := (by omega); have q3 : 0 < a0.size := (by have : (0 : Int) < (a0.size : Int) := of_decide_eq_true (by first | (with_reducible assumption) | assumption); omega); have hx3 : ∀ h : 0 < a0.size, ((a0[0]'h).toNat : Int) = bt a0 0 := bt_at a0 0; clear p3; have qi3 : (0 < (a0.size : Int)) = True := eq_true (of_decide_eq_true (by first | (with_reducible assumption) | assumption)); replace q3 := eq_true q3) | ((with_reducible refine gate_callee (f := 51) rfl ?_); refine goesL_ (some 20) rfl rfl Try.func51 (by kernel_rfl) rfl #[.string (a0.extract 1 a0.size)] rfl (by (try simp only [List.map_toArray, List.map_cons, List.map_nil]); first | done | rfl | (simp only [List.length_drop, List.length_take]; rfl)) ?_; (with_reducible refine (tuple_reads.calls (a0.extract 1 a0.size) t131 t132 t133 _ A6.out).mono ?_); rintro e w8 ⟨rfl, hb⟩; refine ⟨_, rfl, ?_⟩; have n0_ := Aside0.mk (blk_below (g := gb130) (o := .cells #[.int .i64 0, .string (⟨#[]⟩ : ByteArray), .int .i64 0] 52 (0, 0)) (by (with_reducible repeat (first | refine blk_drewN ?_ _ | refine blk_drew ?_ | refine blk_alloc ?_ _)); exact BK130.out) hb); have n1_ := Aside0.mk (below_step (by repeat (first | (with_reducible first | exact HB.out | apply below_alloc | apply pw_below_drewN | apply below_drew1 | refine below_set ?_ GE130.out) | exact HB.out)) hb); clear BK130; clear HB; have BK130 := n0_; have HB := n1_; clear n0_ n1_; (try clear hb); (try clear hb2); (try clear hk); (try clear hi); have hcz9_0 : w8.cell? ⟨gb130, 0, none⟩ = some (.int .i64 0) := (blk_cell BK130.out 0).trans rfl; have hcz9_1 : w8.cell? ⟨gb130, 1, none⟩ = some (.string (⟨#[]⟩ : ByteArray)) := (blk_cell BK130.out 1).trans rfl; have hcz9_2 : w8.cell? ⟨gb130, 2, none⟩ = some (.int .i64 0) := (blk_cell BK130.out 2).trans rfl; have hfz9_0 := blk_frozen BK130.out 0; have hfz9_1 := blk_frozen BK130.out 1; have hfz9_2 := blk_frozen BK130.out 2))
        refine bodyPost_ret (results_ctt rfl _ _ gb130 52 #[.int .i64 1, .string t131, .int .i64 0] (0, 0) _ rfl (by (with_reducible repeat (first | refine blk_drewN ?_ _ | refine blk_drew ?_ | refine blk_alloc ?_ _)); refine blk_put (cs := #[.int .i64 1, .string t131, .int .i64 0]) ?_ 2 _ rfl; (with_reducible repeat (first | refine blk_drewN ?_ _ | refine blk_drew ?_ | refine blk_alloc ?_ _)); refine blk_put (cs := #[.int .i64 1, .string (⟨#[]⟩ : ByteArray), .int .i64 0]) ?_ 1 _ rfl; (with_reducible repeat (first | refine blk_drewN ?_ _ | refine blk_drew ?_ | refine blk_alloc ?_ _)); refine blk_put (cs := #[.int .i64 0, .string (⟨#[]⟩ : ByteArray), .int .i64 0]) ?_ 0 _ rfl; (with_reducible repeat (first | refine blk_drewN ?_ _ | refine blk_drew ?_ | refine blk_alloc ?_ _)); exact BK130.out) Try.underlying52 rfl (by kernel_rfl)) rfl ?_
        exact ⟨by first | with_reducible rfl | (simp [errW_none, errW_some]; done) | rfl | (simp [errW_none, errW_some] <;> rfl) | (simp [*, errW_none, errW_some] <;> rfl), by repeat (first | (with_reducible first | exact HB.out | apply below_alloc | apply pw_below_drewN | apply below_drew1 | refine below_set ?_ GE130.out) | exact HB.out)⟩
      · rw [if_neg c5] at H
        have c5b0 : ((wrap64 (bt a0 0)) == 1) = false := beq_eq_false_iff_ne.mpr c5
        have c5b1 : ((wrap64 (bt a0 0)) != 1) = true := bne_iff_ne.mpr c5
        have HC10 := Aside0.mk H
        clear H
        go_enter Try.func38, Try.ntmps38
        go_upto_region 6 with (first | ((with_reducible refine gate_dst (N := 2) rfl ?_); (try (refine gate_guard (by rfl) ?_; dsimp only)); refine box_event ?hg (N := 2) ?hd (cs := #[.int .i64 0, .string (⟨#[]⟩ : ByteArray), .int .i64 0]) (t := 52) ?hr ?_; (case hd => rfl); (case hg => rfl); (case hr => first | (go_simp; done) | (go_simp; rfl)); intro gb130 hg w11 hbox hb; have n0_ := Aside0.mk (below_step (by repeat (first | (with_reducible first | exact HB.out | apply below_alloc | apply pw_below_drewN | apply below_drew1) | exact HB.out)) hb); have n1_ := Aside0.mk (hbox); have n2_ := Aside0.mk ((by rw [hg]; exact (below_size (by repeat (first | (with_reducible first | exact HB.out | apply below_alloc | apply pw_below_drewN | apply below_drew1) | exact HB.out))) : w.heap.size ≤ gb130)); have n3_ := Aside0.mk ((by rw [hg]; exact (below_size (by repeat (first | (with_reducible first | exact HB.out | apply below_alloc | apply pw_below_drewN | apply below_drew1) | exact HB.out))) : w.heap.size ≤ gb130)); clear HB; have HB := n0_; have BK130 := n1_; have GW130 := n2_; have GE130 := n3_; clear n0_ n1_ n2_ n3_; clear hb hbox hg; have p3 : 0 ≤ (0 : Int) := (by omega); have q3 : 0 < a0.size := (by have : (0 : Int) < (a0.size : Int) := of_decide_eq_true (by first | (with_reducible assumption) | assumption); omega); have hx3 : ∀ h : 0 < a0.size, ((a0[0]'h).toNat : Int) = bt a0 0 := bt_at a0 0; clear p3; have qi3 : (0 < (a0.size : Int)) = True := eq_true (of_decide_eq_true (by first | (with_reducible assumption) | assumption)); replace q3 := eq_true q3))
        (try simp only [Act.put, List.setIfInBounds_toArray, List.set_cons_zero, List.set_cons_succ])
        go_cut [28] (fun v28 wc => ∃ (kq : Nat) (x28_9 : Bool), v28 = .bool x28_9 ∧ Aside0 (tuple_part.j0 kq (a0.extract 1 a0.size) (wrap64 (bt a0 0)) x28_9 = some (r1, r2, r3, r4, r5)) ∧ Aside0 (kq ≤ k) ∧ Aside0 (wc.heap[gb130]? = some (.cells #[.int .i64 0, .string (⟨#[]⟩ : ByteArray), .int .i64 0] 52 (0, 0))) ∧ Aside0 (Below w.heap.size w wc))
        case first =>
          have H := HC10.out
          clear HC10
          by_cases c12 : (wrap64 (bt a0 0)) = 2
          · rw [if_pos c12] at H
            have c12b0 : ((wrap64 (bt a0 0)) == 2) = true := beq_iff_eq.mpr c12
            have c12b1 : ((wrap64 (bt a0 0)) != 2) = false := bne_eq_false_iff_eq.mpr c12
            clear c12
            (first | rw [c12b0] | (simp only [i64_w, i32_w]; rw [c12b0]) | rw [c12b1] | skip)
            have H' := Aside0.mk H
            clear H
            go_wp2
            go_meet
            case rel => exact ⟨_, (decide (((a0.extract 1 a0.size).size : Int) < 8)), (by first | rfl | (simp; done) | (simp [Go.Proofs.Ytbohpjbcjnapfaa.Z.bne_nil, Go.Proofs.Ytbohpjbcjnapfaa.Z.beq_nil]; done) | (simp [*]; done)), H', ⟨by first | omega | exact Nat.le_refl _⟩, ⟨by (with_reducible repeat (first | refine blk_drewN ?_ _ | refine blk_drew ?_ | refine blk_alloc ?_ _)); exact BK130.out⟩, ⟨by repeat (first | (with_reducible first | exact HB.out | apply below_alloc | apply pw_below_drewN | apply below_drew1 | refine below_set ?_ GE130.out) | exact HB.out)⟩⟩
          · rw [if_neg c12] at H
            have c12b0 : ((wrap64 (bt a0 0)) == 2) = false := beq_eq_false_iff_ne.mpr c12
            have c12b1 : ((wrap64 (bt a0 0)) != 2) = true := bne_iff_ne.mpr c12
            (first | rw [c12b0] | (simp only [i64_w, i32_w]; rw [c12b0]) | rw [c12b1] | skip)
            by_cases c13 : (wrap64 (bt a0 0)) = 3
            · rw [if_pos c13] at H
              have c13b0 : ((wrap64 (bt a0 0)) == 3) = true := beq_iff_eq.mpr c13
              have c13b1 : ((wrap64 (bt a0 0)) != 3) = false := bne_eq_false_iff_eq.mpr c13
              clear c13
              have H' := Aside0.mk H
              clear H
              go_wp2
              go_meet
              case rel => exact ⟨_, (decide (((a0.extract 1 a0.size).size : Int) < 8)), (by first | rfl | (simp; done) | (simp [Go.Proofs.Ytbohpjbcjnapfaa.Z.bne_nil, Go.Proofs.Ytbohpjbcjnapfaa.Z.beq_nil]; done) | (simp [*]; done)), H', ⟨by first | omega | exact Nat.le_refl _⟩, ⟨by (with_reducible repeat (first | refine blk_drewN ?_ _ | refine blk_drew ?_ | refine blk_alloc ?_ _)); exact BK130.out⟩, ⟨by repeat (first | (with_reducible first | exact HB.out | apply below_alloc | apply pw_below_drewN | apply below_drew1 | refine below_set ?_ GE130.out) | exact HB.out)⟩⟩
            · rw [if_neg c13] at H
              have c13b0 : ((wrap64 (bt a0 0)) == 3) = false := beq_eq_false_iff_ne.mpr c13
              have c13b1 : ((wrap64 (bt a0 0)) != 3) = true := bne_iff_ne.mpr c13
              have H' := Aside0.mk H
              clear H
              go_wp2
              go_meet
              case rel => exact ⟨_, (true), (by first | rfl | (simp; done) | (simp [Go.Proofs.Ytbohpjbcjnapfaa.Z.bne_nil, Go.Proofs.Ytbohpjbcjnapfaa.Z.beq_nil]; done) | (simp [*]; done)), H', ⟨by first | omega | exact Nat.le_refl _⟩, ⟨by (with_reducible repeat (first | refine blk_drewN ?_ _ | refine blk_drew ?_ | refine blk_alloc ?_ _)); exact BK130.out⟩, ⟨by repeat (first | (with_reducible first | exact HB.out | apply below_alloc | apply pw_below_drewN | apply below_drew1 | refine below_set ?_ GE130.out) | exact HB.out)⟩⟩
        case rest =>
          clear HC10
          try clear c1
          try clear c2
          try clear c2b0
          try clear c2b1
          try clear p2
          try clear c3
          try clear p3
          try clear q3
          try clear hx3
          try clear qi3
          try clear c4
          try clear c4b0
          try clear c4b1
          try clear c5
          try clear c5b0
          try clear c5b1
          try clear p6
          try clear c12
          try clear c12b0
          try clear c12b1
          try clear c13
          try clear c13b0
          try clear c13b1
          try clear hcz9_0
          try clear hcz9_1
          try clear hcz9_2
          try clear hfz9_0
          try clear hfz9_1
          try clear hfz9_2
          try clear p3
          try clear q3
          obtain ⟨kq, x28_9, rfl, HA, HJ9, BK130, HB⟩ := hcut
          cases kq with
          | zero => exact absurd HA.out (by simp [tuple_part.j0])
          | succ kj9 =>
            have H := HA.out
            clear HA
            simp only [tuple_part.j0] at H
            by_cases c14 : x28_9 = true
            · subst c14
              have H1 : (some (0, (⟨#[]⟩ : ByteArray), 0, (⟨#[]⟩ : ByteArray), false)) = some (r1, r2, r3, r4, r5) := by rw [if_pos rfl] at H; exact H
              clear H
              have H := H1
              clear H1
              simp only [Option.some.injEq, Prod.mk.injEq] at H
              obtain ⟨rfl, rfl, rfl, rfl, rfl⟩ := H
              have hcz15_0 : wc.cell? ⟨gb130, 0, none⟩ = some (.int .i64 0) := (blk_cell BK130.out 0).trans rfl
              have hcz15_1 : wc.cell? ⟨gb130, 1, none⟩ = some (.string (⟨#[]⟩ : ByteArray)) := (blk_cell BK130.out 1).trans rfl
              have hcz15_2 : wc.cell? ⟨gb130, 2, none⟩ = some (.int .i64 0) := (blk_cell BK130.out 2).trans rfl
              have hfz15_0 := blk_frozen BK130.out 0
              have hfz15_1 := blk_frozen BK130.out 1
              have hfz15_2 := blk_frozen BK130.out 2
              go_wp2
              refine bodyPost_ret (results_ctt rfl _ _ gb130 52 #[.int .i64 0, .string (⟨#[]⟩ : ByteArray), .int .i64 0] (0, 0) _ rfl (by (with_reducible repeat (first | refine blk_drewN ?_ _ | refine blk_drew ?_ | refine blk_alloc ?_ _)); refine blk_put (cs := #[.int .i64 0, .string (⟨#[]⟩ : ByteArray), .int .i64 0]) ?_ 2 _ rfl; (with_reducible repeat (first | refine blk_drewN ?_ _ | refine blk_drew ?_ | refine blk_alloc ?_ _)); refine blk_put (cs := #[.int .i64 0, .string (⟨#[]⟩ : ByteArray), .int .i64 0]) ?_ 1 _ rfl; (with_reducible repeat (first | refine blk_drewN ?_ _ | refine blk_drew ?_ | refine blk_alloc ?_ _)); refine blk_put (cs := #[.int .i64 0, .string (⟨#[]⟩ : ByteArray), .int .i64 0]) ?_ 0 _ rfl; (with_reducible repeat (first | refine blk_drewN ?_ _ | refine blk_drew ?_ | refine blk_alloc ?_ _)); exact BK130.out) Try.underlying52 rfl (by kernel_rfl)) rfl ?_
              exact ⟨by first | with_reducible rfl | (simp [errW_none, errW_some]; done) | rfl | (simp [errW_none, errW_some] <;> rfl) | (simp [*, errW_none, errW_some] <;> rfl), by repeat (first | (with_reducible first | exact HB.out | apply below_alloc | apply pw_below_drewN | apply below_drew1 | refine below_set ?_ GE130.out) | exact HB.out)⟩
            · replace c14 := Bool.eq_false_iff.mpr c14
              subst c14
              have H1 : ((tuple_value.f kj9 (a0.extract 1 a0.size)).bind fun t134 => (if (wrap64 (bt a0 0)) = 3 then (if 8 ≤ ((a0.extract 1 a0.size).size : Int) then (some ((wrap64 (bt a0 0)), (⟨#[]⟩ : ByteArray), wrap64 (Go.bits .xor .u64 (Go.bits .xor .u64 18446744073709551615 t134) 9223372036854775808), (a0.extract 1 a0.size).extract 8 (a0.extract 1 a0.size).size, true)) else (none)) else (if 8 ≤ ((a0.extract 1 a0.size).size : Int) then (some ((wrap64 (bt a0 0)), (⟨#[]⟩ : ByteArray), wrap64 (Go.bits .xor .u64 t134 9223372036854775808), (a0.extract 1 a0.size).extract 8 (a0.extract 1 a0.size).size, true)) else (none)))) = some (r1, r2, r3, r4, r5) := by rw [if_neg (show ¬ (false = true) by decide)] at H; exact H
              clear H
              have H := H1
              clear H1
              replace H := Option.bind_eq_some_iff.mp H
              obtain ⟨t134, A160, H⟩ := H
              replace H : (if (wrap64 (bt a0 0)) = 3 then (if 8 ≤ ((a0.extract 1 a0.size).size : Int) then (some ((wrap64 (bt a0 0)), (⟨#[]⟩ : ByteArray), wrap64 (Go.bits .xor .u64 (Go.bits .xor .u64 18446744073709551615 t134) 9223372036854775808), (a0.extract 1 a0.size).extract 8 (a0.extract 1 a0.size).size, true)) else (none)) else (if 8 ≤ ((a0.extract 1 a0.size).size : Int) then (some ((wrap64 (bt a0 0)), (⟨#[]⟩ : ByteArray), wrap64 (Go.bits .xor .u64 t134 9223372036854775808), (a0.extract 1 a0.size).extract 8 (a0.extract 1 a0.size).size, true)) else (none))) = some (r1, r2, r3, r4, r5) := H
              have A16 := Aside0.mk A160
              clear A160
              by_cases c17 : (wrap64 (bt a0 0)) = 3
              · rw [if_pos c17] at H
                have c17b0 : ((wrap64 (bt a0 0)) == 3) = true := beq_iff_eq.mpr c17
                have c17b1 : ((wrap64 (bt a0 0)) != 3) = false := bne_eq_false_iff_eq.mpr c17
                clear c17
                by_cases c18 : 8 ≤ ((a0.extract 1 a0.size).size : Int)
                · rw [if_pos c18] at H
                  have c18b0 := eq_true c18
                  have c18b1 : decide (8 ≤ ((a0.extract 1 a0.size).size : Int)) = true := decide_eq_true c18
                  clear c18
                  simp only [Option.some.injEq, Prod.mk.injEq] at H
                  obtain ⟨rfl, rfl, rfl, rfl, rfl⟩ := H
                  try go_wp2_with (first | ((with_reducible refine gate_callee (f := 52) rfl ?_); refine goesL_ (some 42) rfl rfl Try.func52 (by kernel_rfl) rfl #[.string (a0.extract 1 a0.size)] rfl (by (try simp only [List.map_toArray, List.map_cons, List.map_nil]); first | done | rfl | (simp only [List.length_drop, List.length_take]; rfl)) ?_; (with_reducible refine (tuple_value.calls kj9 (a0.extract 1 a0.size) t134 _ A16.out).mono ?_); rintro e w' ⟨rfl, ⟨nd, rfl⟩⟩; refine ⟨_, rfl, ?_⟩; (try (rw [drewN_self wc]; generalize hq_ : World.drewN wc _ = wc; have n0_ : Aside0 (wc.heap[gb130]? = some (.cells #[.int .i64 0, .string (⟨#[]⟩ : ByteArray), .int .i64 0] 52 (0, 0))) := ⟨by rw [← hq_]; exact (by (with_reducible repeat (first | refine blk_drewN ?_ _ | refine blk_drew ?_ | refine blk_alloc ?_ _)); exact BK130.out)⟩; have n1_ : Aside0 (Below w.heap.size w wc) := ⟨by rw [← hq_]; exact (by repeat (first | (with_reducible first | exact HB.out | apply below_alloc | apply pw_below_drewN | apply below_drew1 | refine below_set ?_ GE130.out) | exact HB.out))⟩; clear BK130 HB hq_; have BK130 := n0_; have HB := n1_; clear n0_ n1_))))
                  have n0_ := Aside0.mk (blk_drew BK130.out)
                  have n1_ := Aside0.mk (below_drew1 HB.out)
                  clear BK130
                  clear HB
                  have BK130 := n0_
                  have HB := n1_
                  clear n0_ n1_
                  refine start_ (n := 10) (S := fun w' => True) (ds := []) #[false, false, false, false, false, false, false, false, false, false] (by kernel_rfl) rfl rfl trivial (fun hHeld => ?_); refine with_tabW tuple_part.tab11 tuple_part.bits11 (fun HT_ HW_ => ?_)
                  generalize wc.drew = w19 at BK130 HB hHeld ⊢
                  refine pure_ (i := 0) (N := some 47) (v := ?_) (a' := ?_) #[true, false, false, false, false, false, false, false, false, false] rfl rfl (any_of HT_.out (by kernel_rfl)) (fun _ _ _ h => h) (Or.inl ⟨by rfl, ?_⟩) ?_ ?_
                  rotate_left
                  · intro w'
                    (try (have c18b3 : ((8 : Int) ≤ ((a0.size - 1 : Nat) : Int)) = True := eq_true (by have c18 := of_decide_eq_true c18b1; rw [ByteArray.size_extract] at c18; omega)))
                    (try (have c23b3 : ((8 : Int) ≤ ((a0.size - 1 : Nat) : Int)) = True := eq_true (by have c23 := of_decide_eq_true c23b1; rw [ByteArray.size_extract] at c23; omega)))
                    go_simp
                    with_reducible rfl
                  rotate_left
                  · simp only [Act.put, List.setIfInBounds_toArray, List.set_cons_zero, List.set_cons_succ, i64_w, i32_w]
                    rfl
                  refine pure_ (i := 1) (N := some 48) (v := ?_) (a' := ?_) #[true, true, false, false, false, false, false, false, false, false] rfl rfl (any_of HT_.out (by kernel_rfl)) (fun _ _ _ h => h) (Or.inl ⟨by rfl, ?_⟩) ?_ ?_
                  rotate_left
                  · intro w'
                    (try (have c18b3 : ((8 : Int) ≤ ((a0.size - 1 : Nat) : Int)) = True := eq_true (by have c18 := of_decide_eq_true c18b1; rw [ByteArray.size_extract] at c18; omega)))
                    (try (have c23b3 : ((8 : Int) ≤ ((a0.size - 1 : Nat) : Int)) = True := eq_true (by have c23 := of_decide_eq_true c23b1; rw [ByteArray.size_extract] at c23; omega)))
                    go_simp
                    with_reducible rfl
                  rotate_left
                  · simp only [Act.put, List.setIfInBounds_toArray, List.set_cons_zero, List.set_cons_succ, i64_w, i32_w]
                    rfl
                  refine pure_ (i := 2) (N := some 49) (v := ?_) (a' := ?_) #[true, true, true, false, false, false, false, false, false, false] rfl rfl (any_of HT_.out (by kernel_rfl)) (fun _ _ _ h => h) (Or.inl ⟨by rfl, ?_⟩) ?_ ?_
                  rotate_left
                  · intro w'
                    (try (have c18b3 : ((8 : Int) ≤ ((a0.size - 1 : Nat) : Int)) = True := eq_true (by have c18 := of_decide_eq_true c18b1; rw [ByteArray.size_extract] at c18; omega)))
                    (try (have c23b3 : ((8 : Int) ≤ ((a0.size - 1 : Nat) : Int)) = True := eq_true (by have c23 := of_decide_eq_true c23b1; rw [ByteArray.size_extract] at c23; omega)))
                    go_simp
                    with_reducible rfl
                  rotate_left
                  · simp only [Act.put, List.setIfInBounds_toArray, List.set_cons_zero, List.set_cons_succ, i64_w, i32_w]
                    rfl
                  refine pure_ (i := 3) (N := some 50) (v := ?_) (a' := ?_) #[true, true, true, true, false, false, false, false, false, false] rfl rfl (any_of HT_.out (by kernel_rfl)) (fun _ _ _ h => h) (Or.inl ⟨by rfl, ?_⟩) ?_ ?_
                  rotate_left
                  · intro w'
                    (try (have c18b3 : ((8 : Int) ≤ ((a0.size - 1 : Nat) : Int)) = True := eq_true (by have c18 := of_decide_eq_true c18b1; rw [ByteArray.size_extract] at c18; omega)))
                    (try (have c23b3 : ((8 : Int) ≤ ((a0.size - 1 : Nat) : Int)) = True := eq_true (by have c23 := of_decide_eq_true c23b1; rw [ByteArray.size_extract] at c23; omega)))
                    go_simp
                    with_reducible rfl
                  rotate_left
                  · simp only [Act.put, List.setIfInBounds_toArray, List.set_cons_zero, List.set_cons_succ, i64_w, i32_w]
                    rfl
                  refine pure_ (i := 4) (N := some 51) (v := ?_) (a' := ?_) #[true, true, true, true, true, false, false, false, false, false] rfl rfl (any_of HT_.out (by kernel_rfl)) (fun _ _ _ h => h) (Or.inl ⟨by rfl, ?_⟩) ?_ ?_
                  rotate_left
                  · intro w'
                    (try (have c18b3 : ((8 : Int) ≤ ((a0.size - 1 : Nat) : Int)) = True := eq_true (by have c18 := of_decide_eq_true c18b1; rw [ByteArray.size_extract] at c18; omega)))
                    (try (have c23b3 : ((8 : Int) ≤ ((a0.size - 1 : Nat) : Int)) = True := eq_true (by have c23 := of_decide_eq_true c23b1; rw [ByteArray.size_extract] at c23; omega)))
                    go_simp
                    with_reducible rfl
                  rotate_left
                  · simp only [Act.put, List.setIfInBounds_toArray, List.set_cons_zero, List.set_cons_succ, i64_w, i32_w]
                    rfl
                  refine pure_ (i := 5) (N := some 52) (v := ?_) (a' := ?_) #[true, true, true, true, true, true, false, false, false, false] rfl rfl (any_of HT_.out (by kernel_rfl)) (fun _ _ _ h => h) (Or.inl ⟨by rfl, ?_⟩) ?_ ?_
                  rotate_left
                  · intro w'
                    (try (have c18b3 : ((8 : Int) ≤ ((a0.size - 1 : Nat) : Int)) = True := eq_true (by have c18 := of_decide_eq_true c18b1; rw [ByteArray.size_extract] at c18; omega)))
                    (try (have c23b3 : ((8 : Int) ≤ ((a0.size - 1 : Nat) : Int)) = True := eq_true (by have c23 := of_decide_eq_true c23b1; rw [ByteArray.size_extract] at c23; omega)))
                    go_simp
                    with_reducible rfl
                  rotate_left
                  · simp only [Act.put, List.setIfInBounds_toArray, List.set_cons_zero, List.set_cons_succ, i64_w, i32_w]
                    rfl
                  refine pure_ (i := 6) (N := some 53) (v := ?_) (a' := ?_) #[true, true, true, true, true, true, true, false, false, false] rfl rfl (any_of HT_.out (by kernel_rfl)) (fun _ _ _ h => h) (Or.inl ⟨by rfl, ?_⟩) ?_ ?_
                  rotate_left
                  · intro w'
                    (try (have c18b3 : ((8 : Int) ≤ ((a0.size - 1 : Nat) : Int)) = True := eq_true (by have c18 := of_decide_eq_true c18b1; rw [ByteArray.size_extract] at c18; omega)))
                    (try (have c23b3 : ((8 : Int) ≤ ((a0.size - 1 : Nat) : Int)) = True := eq_true (by have c23 := of_decide_eq_true c23b1; rw [ByteArray.size_extract] at c23; omega)))
                    go_simp
                    with_reducible rfl
                  rotate_left
                  · simp only [Act.put, List.setIfInBounds_toArray, List.set_cons_zero, List.set_cons_succ, i64_w, i32_w]
                    rfl
                  refine one_ (i := 7) (N := none) #[true, true, true, true, true, true, true, true, false, false] rfl rfl (one_of HT_.out (by kernel_rfl)) (by decide) (fun K hK => ?_)
                  have hs20 : w19.cell? ⟨gb130, 0, none⟩ = some (.int .i64 0) := (blk_cell BK130.out 0).trans rfl
                  have hfs20 := blk_frozen BK130.out 0
                  have hs21 : w19.cell? ⟨gb130, 1, none⟩ = some (.string (⟨#[]⟩ : ByteArray)) := (blk_cell BK130.out 1).trans rfl
                  have hfs21 := blk_frozen BK130.out 1
                  have hs22 : w19.cell? ⟨gb130, 2, none⟩ = some (.int .i64 0) := (blk_cell BK130.out 2).trans rfl
                  have hfs22 := blk_frozen BK130.out 2
                  refine skip_ (w1 := ?_) (by rfl) rfl ?_ ?_
                  rotate_left
                  · go_simp
                    rfl
                  refine hK.out _ _ trivial (fun hHeld => ?_)
                  clear hK K
                  refine pure_ (i := 8) (N := some 3) (v := ?_) (a' := ?_) #[true, true, true, true, true, true, true, true, true, false] rfl rfl (any_of HT_.out (by kernel_rfl)) (fun _ _ _ h => h) (Or.inl ⟨by rfl, ?_⟩) ?_ ?_
                  rotate_left
                  · intro w'
                    (try (have c18b3 : ((8 : Int) ≤ ((a0.size - 1 : Nat) : Int)) = True := eq_true (by have c18 := of_decide_eq_true c18b1; rw [ByteArray.size_extract] at c18; omega)))
                    (try (have c23b3 : ((8 : Int) ≤ ((a0.size - 1 : Nat) : Int)) = True := eq_true (by have c23 := of_decide_eq_true c23b1; rw [ByteArray.size_extract] at c23; omega)))
                    go_simp
                    with_reducible rfl
                  rotate_left
                  · simp only [Act.put, List.setIfInBounds_toArray, List.set_cons_zero, List.set_cons_succ, i64_w, i32_w]
                    rfl
                  refine pure_ (i := 9) (N := some 4) (v := ?_) (a' := ?_) #[true, true, true, true, true, true, true, true, true, true] rfl rfl (any_of HT_.out (by kernel_rfl)) (fun _ _ _ h => h) (Or.inl ⟨by rfl, ?_⟩) ?_ ?_
                  rotate_left
                  · intro w'
                    (try (have c18b3 : ((8 : Int) ≤ ((a0.size - 1 : Nat) : Int)) = True := eq_true (by have c18 := of_decide_eq_true c18b1; rw [ByteArray.size_extract] at c18; omega)))
                    (try (have c23b3 : ((8 : Int) ≤ ((a0.size - 1 : Nat) : Int)) = True := eq_true (by have c23 := of_decide_eq_true c23b1; rw [ByteArray.size_extract] at c23; omega)))
                    go_simp
                    with_reducible rfl
                  rotate_left
                  · simp only [Act.put, List.setIfInBounds_toArray, List.set_cons_zero, List.set_cons_succ, i64_w, i32_w]
                    rfl
                  refine done_ (done_of HT_.out (by kernel_rfl)) ?_
                  try go_wp2
                  refine bodyPost_ret (results_ctt rfl _ _ gb130 52 #[.int .i64 (wrap64 (bt a0 0)), .string (⟨#[]⟩ : ByteArray), .int .i64 (wrap64 (Go.bits .xor .u64 (Go.bits .xor .u64 18446744073709551615 t134) 9223372036854775808))] (0, 0) _ rfl (by (with_reducible repeat (first | refine blk_drewN ?_ _ | refine blk_drew ?_ | refine blk_alloc ?_ _)); refine blk_put (cs := #[.int .i64 (wrap64 (bt a0 0)), .string (⟨#[]⟩ : ByteArray), .int .i64 0]) ?_ 2 _ rfl; (with_reducible repeat (first | refine blk_drewN ?_ _ | refine blk_drew ?_ | refine blk_alloc ?_ _)); refine blk_put (cs := #[.int .i64 (wrap64 (bt a0 0)), .string (⟨#[]⟩ : ByteArray), .int .i64 0]) ?_ 1 _ rfl; (with_reducible repeat (first | refine blk_drewN ?_ _ | refine blk_drew ?_ | refine blk_alloc ?_ _)); refine blk_put (cs := #[.int .i64 0, .string (⟨#[]⟩ : ByteArray), .int .i64 0]) ?_ 0 _ rfl; (with_reducible repeat (first | refine blk_drewN ?_ _ | refine blk_drew ?_ | refine blk_alloc ?_ _)); exact BK130.out) Try.underlying52 rfl (by kernel_rfl)) rfl ?_
                  exact ⟨by first | with_reducible rfl | (simp [errW_none, errW_some]; done) | rfl | (simp [errW_none, errW_some] <;> rfl) | (simp [*, errW_none, errW_some] <;> rfl), by repeat (first | (with_reducible first | exact HB.out | apply below_alloc | apply pw_below_drewN | apply below_drew1 | refine below_set ?_ GE130.out) | exact HB.out)⟩
                · rw [if_neg c18] at H
                  exact absurd H (by simp)
              · rw [if_neg c17] at H
                have c17b0 : ((wrap64 (bt a0 0)) == 3) = false := beq_eq_false_iff_ne.mpr c17
                have c17b1 : ((wrap64 (bt a0 0)) != 3) = true := bne_iff_ne.mpr c17
                by_cases c23 : 8 ≤ ((a0.extract 1 a0.size).size : Int)
                · rw [if_pos c23] at H
                  have c23b0 := eq_true c23
                  have c23b1 : decide (8 ≤ ((a0.extract 1 a0.size).size : Int)) = true := decide_eq_true c23
                  clear c23
                  simp only [Option.some.injEq, Prod.mk.injEq] at H
                  obtain ⟨rfl, rfl, rfl, rfl, rfl⟩ := H
                  try go_wp2_with (first | ((with_reducible refine gate_callee (f := 52) rfl ?_); refine goesL_ (some 42) rfl rfl Try.func52 (by kernel_rfl) rfl #[.string (a0.extract 1 a0.size)] rfl (by (try simp only [List.map_toArray, List.map_cons, List.map_nil]); first | done | rfl | (simp only [List.length_drop, List.length_take]; rfl)) ?_; (with_reducible refine (tuple_value.calls kj9 (a0.extract 1 a0.size) t134 _ A16.out).mono ?_); rintro e w' ⟨rfl, ⟨nd, rfl⟩⟩; refine ⟨_, rfl, ?_⟩; (try (rw [drewN_self wc]; generalize hq_ : World.drewN wc _ = wc; have n0_ : Aside0 (wc.heap[gb130]? = some (.cells #[.int .i64 0, .string (⟨#[]⟩ : ByteArray), .int .i64 0] 52 (0, 0))) := ⟨by rw [← hq_]; exact (by (with_reducible repeat (first | refine blk_drewN ?_ _ | refine blk_drew ?_ | refine blk_alloc ?_ _)); exact BK130.out)⟩; have n1_ : Aside0 (Below w.heap.size w wc) := ⟨by rw [← hq_]; exact (by repeat (first | (with_reducible first | exact HB.out | apply below_alloc | apply pw_below_drewN | apply below_drew1 | refine below_set ?_ GE130.out) | exact HB.out))⟩; clear BK130 HB hq_; have BK130 := n0_; have HB := n1_; clear n0_ n1_))))
                  have n0_ := Aside0.mk (blk_drew BK130.out)
                  have n1_ := Aside0.mk (below_drew1 HB.out)
                  clear BK130
                  clear HB
                  have BK130 := n0_
                  have HB := n1_
                  clear n0_ n1_
                  refine start_ (n := 10) (S := fun w' => True) (ds := []) #[false, false, false, false, false, false, false, false, false, false] (by kernel_rfl) rfl rfl trivial (fun hHeld => ?_); refine with_tabW tuple_part.tab11 tuple_part.bits11 (fun HT_ HW_ => ?_)
                  generalize wc.drew = w24 at BK130 HB hHeld ⊢
                  refine pure_ (i := 0) (N := some 47) (v := ?_) (a' := ?_) #[true, false, false, false, false, false, false, false, false, false] rfl rfl (any_of HT_.out (by kernel_rfl)) (fun _ _ _ h => h) (Or.inl ⟨by rfl, ?_⟩) ?_ ?_
                  rotate_left
                  · intro w'
                    (try (have c18b3 : ((8 : Int) ≤ ((a0.size - 1 : Nat) : Int)) = True := eq_true (by have c18 := of_decide_eq_true c18b1; rw [ByteArray.size_extract] at c18; omega)))
                    (try (have c23b3 : ((8 : Int) ≤ ((a0.size - 1 : Nat) : Int)) = True := eq_true (by have c23 := of_decide_eq_true c23b1; rw [ByteArray.size_extract] at c23; omega)))
                    go_simp
                    with_reducible rfl
                  rotate_left
                  · simp only [Act.put, List.setIfInBounds_toArray, List.set_cons_zero, List.set_cons_succ, i64_w, i32_w]
                    rfl
                  refine pure_ (i := 1) (N := some 48) (v := ?_) (a' := ?_) #[true, true, false, false, false, false, false, false, false, false] rfl rfl (any_of HT_.out (by kernel_rfl)) (fun _ _ _ h => h) (Or.inl ⟨by rfl, ?_⟩) ?_ ?_
                  rotate_left
                  · intro w'
                    (try (have c18b3 : ((8 : Int) ≤ ((a0.size - 1 : Nat) : Int)) = True := eq_true (by have c18 := of_decide_eq_true c18b1; rw [ByteArray.size_extract] at c18; omega)))
                    (try (have c23b3 : ((8 : Int) ≤ ((a0.size - 1 : Nat) : Int)) = True := eq_true (by have c23 := of_decide_eq_true c23b1; rw [ByteArray.size_extract] at c23; omega)))
                    go_simp
                    with_reducible rfl
                  rotate_left
                  · simp only [Act.put, List.setIfInBounds_toArray, List.set_cons_zero, List.set_cons_succ, i64_w, i32_w]
                    rfl
                  refine pure_ (i := 2) (N := some 49) (v := ?_) (a' := ?_) #[true, true, true, false, false, false, false, false, false, false] rfl rfl (any_of HT_.out (by kernel_rfl)) (fun _ _ _ h => h) (Or.inl ⟨by rfl, ?_⟩) ?_ ?_
                  rotate_left
                  · intro w'
                    (try (have c18b3 : ((8 : Int) ≤ ((a0.size - 1 : Nat) : Int)) = True := eq_true (by have c18 := of_decide_eq_true c18b1; rw [ByteArray.size_extract] at c18; omega)))
                    (try (have c23b3 : ((8 : Int) ≤ ((a0.size - 1 : Nat) : Int)) = True := eq_true (by have c23 := of_decide_eq_true c23b1; rw [ByteArray.size_extract] at c23; omega)))
                    go_simp
                    with_reducible rfl
                  rotate_left
                  · simp only [Act.put, List.setIfInBounds_toArray, List.set_cons_zero, List.set_cons_succ, i64_w, i32_w]
                    rfl
                  refine pure_ (i := 3) (N := some 50) (v := ?_) (a' := ?_) #[true, true, true, true, false, false, false, false, false, false] rfl rfl (any_of HT_.out (by kernel_rfl)) (fun _ _ _ h => h) (Or.inl ⟨by rfl, ?_⟩) ?_ ?_
                  rotate_left
                  · intro w'
                    (try (have c18b3 : ((8 : Int) ≤ ((a0.size - 1 : Nat) : Int)) = True := eq_true (by have c18 := of_decide_eq_true c18b1; rw [ByteArray.size_extract] at c18; omega)))
                    (try (have c23b3 : ((8 : Int) ≤ ((a0.size - 1 : Nat) : Int)) = True := eq_true (by have c23 := of_decide_eq_true c23b1; rw [ByteArray.size_extract] at c23; omega)))
                    go_simp
                    with_reducible rfl
                  rotate_left
                  · simp only [Act.put, List.setIfInBounds_toArray, List.set_cons_zero, List.set_cons_succ, i64_w, i32_w]
                    rfl
                  refine pure_ (i := 4) (N := some 51) (v := ?_) (a' := ?_) #[true, true, true, true, true, false, false, false, false, false] rfl rfl (any_of HT_.out (by kernel_rfl)) (fun _ _ _ h => h) (Or.inl ⟨by rfl, ?_⟩) ?_ ?_
                  rotate_left
                  · intro w'
                    (try (have c18b3 : ((8 : Int) ≤ ((a0.size - 1 : Nat) : Int)) = True := eq_true (by have c18 := of_decide_eq_true c18b1; rw [ByteArray.size_extract] at c18; omega)))
                    (try (have c23b3 : ((8 : Int) ≤ ((a0.size - 1 : Nat) : Int)) = True := eq_true (by have c23 := of_decide_eq_true c23b1; rw [ByteArray.size_extract] at c23; omega)))
                    go_simp
                    with_reducible rfl
                  rotate_left
                  · simp only [Act.put, List.setIfInBounds_toArray, List.set_cons_zero, List.set_cons_succ, i64_w, i32_w]
                    rfl
                  refine pure_ (i := 5) (N := some 52) (v := ?_) (a' := ?_) #[true, true, true, true, true, true, false, false, false, false] rfl rfl (any_of HT_.out (by kernel_rfl)) (fun _ _ _ h => h) (Or.inl ⟨by rfl, ?_⟩) ?_ ?_
                  rotate_left
                  · intro w'
                    (try (have c18b3 : ((8 : Int) ≤ ((a0.size - 1 : Nat) : Int)) = True := eq_true (by have c18 := of_decide_eq_true c18b1; rw [ByteArray.size_extract] at c18; omega)))
                    (try (have c23b3 : ((8 : Int) ≤ ((a0.size - 1 : Nat) : Int)) = True := eq_true (by have c23 := of_decide_eq_true c23b1; rw [ByteArray.size_extract] at c23; omega)))
                    go_simp
                    with_reducible rfl
                  rotate_left
                  · simp only [Act.put, List.setIfInBounds_toArray, List.set_cons_zero, List.set_cons_succ, i64_w, i32_w]
                    rfl
                  refine pure_ (i := 6) (N := some 53) (v := ?_) (a' := ?_) #[true, true, true, true, true, true, true, false, false, false] rfl rfl (any_of HT_.out (by kernel_rfl)) (fun _ _ _ h => h) (Or.inl ⟨by rfl, ?_⟩) ?_ ?_
                  rotate_left
                  · intro w'
                    (try (have c18b3 : ((8 : Int) ≤ ((a0.size - 1 : Nat) : Int)) = True := eq_true (by have c18 := of_decide_eq_true c18b1; rw [ByteArray.size_extract] at c18; omega)))
                    (try (have c23b3 : ((8 : Int) ≤ ((a0.size - 1 : Nat) : Int)) = True := eq_true (by have c23 := of_decide_eq_true c23b1; rw [ByteArray.size_extract] at c23; omega)))
                    go_simp
                    with_reducible rfl
                  rotate_left
                  · simp only [Act.put, List.setIfInBounds_toArray, List.set_cons_zero, List.set_cons_succ, i64_w, i32_w]
                    rfl
                  refine one_ (i := 7) (N := none) #[true, true, true, true, true, true, true, true, false, false] rfl rfl (one_of HT_.out (by kernel_rfl)) (by decide) (fun K hK => ?_)
                  have hs25 : w24.cell? ⟨gb130, 0, none⟩ = some (.int .i64 0) := (blk_cell BK130.out 0).trans rfl
                  have hfs25 := blk_frozen BK130.out 0
                  have hs26 : w24.cell? ⟨gb130, 1, none⟩ = some (.string (⟨#[]⟩ : ByteArray)) := (blk_cell BK130.out 1).trans rfl
                  have hfs26 := blk_frozen BK130.out 1
                  have hs27 : w24.cell? ⟨gb130, 2, none⟩ = some (.int .i64 0) := (blk_cell BK130.out 2).trans rfl
                  have hfs27 := blk_frozen BK130.out 2
                  refine skip_ (w1 := ?_) (by rfl) rfl ?_ ?_
                  rotate_left
                  · go_simp
                    rfl
                  refine hK.out _ _ trivial (fun hHeld => ?_)
                  clear hK K
                  refine pure_ (i := 8) (N := some 3) (v := ?_) (a' := ?_) #[true, true, true, true, true, true, true, true, true, false] rfl rfl (any_of HT_.out (by kernel_rfl)) (fun _ _ _ h => h) (Or.inl ⟨by rfl, ?_⟩) ?_ ?_
                  rotate_left
                  · intro w'
                    (try (have c18b3 : ((8 : Int) ≤ ((a0.size - 1 : Nat) : Int)) = True := eq_true (by have c18 := of_decide_eq_true c18b1; rw [ByteArray.size_extract] at c18; omega)))
                    (try (have c23b3 : ((8 : Int) ≤ ((a0.size - 1 : Nat) : Int)) = True := eq_true (by have c23 := of_decide_eq_true c23b1; rw [ByteArray.size_extract] at c23; omega)))
                    go_simp
                    with_reducible rfl
                  rotate_left
                  · simp only [Act.put, List.setIfInBounds_toArray, List.set_cons_zero, List.set_cons_succ, i64_w, i32_w]
                    rfl
                  refine pure_ (i := 9) (N := some 4) (v := ?_) (a' := ?_) #[true, true, true, true, true, true, true, true, true, true] rfl rfl (any_of HT_.out (by kernel_rfl)) (fun _ _ _ h => h) (Or.inl ⟨by rfl, ?_⟩) ?_ ?_
                  rotate_left
                  · intro w'
                    (try (have c18b3 : ((8 : Int) ≤ ((a0.size - 1 : Nat) : Int)) = True := eq_true (by have c18 := of_decide_eq_true c18b1; rw [ByteArray.size_extract] at c18; omega)))
                    (try (have c23b3 : ((8 : Int) ≤ ((a0.size - 1 : Nat) : Int)) = True := eq_true (by have c23 := of_decide_eq_true c23b1; rw [ByteArray.size_extract] at c23; omega)))
                    go_simp
                    with_reducible rfl
                  rotate_left
                  · simp only [Act.put, List.setIfInBounds_toArray, List.set_cons_zero, List.set_cons_succ, i64_w, i32_w]
                    rfl
                  refine done_ (done_of HT_.out (by kernel_rfl)) ?_
                  try go_wp2
                  refine bodyPost_ret (results_ctt rfl _ _ gb130 52 #[.int .i64 (wrap64 (bt a0 0)), .string (⟨#[]⟩ : ByteArray), .int .i64 (wrap64 (Go.bits .xor .u64 t134 9223372036854775808))] (0, 0) _ rfl (by (with_reducible repeat (first | refine blk_drewN ?_ _ | refine blk_drew ?_ | refine blk_alloc ?_ _)); refine blk_put (cs := #[.int .i64 (wrap64 (bt a0 0)), .string (⟨#[]⟩ : ByteArray), .int .i64 0]) ?_ 2 _ rfl; (with_reducible repeat (first | refine blk_drewN ?_ _ | refine blk_drew ?_ | refine blk_alloc ?_ _)); refine blk_put (cs := #[.int .i64 (wrap64 (bt a0 0)), .string (⟨#[]⟩ : ByteArray), .int .i64 0]) ?_ 1 _ rfl; (with_reducible repeat (first | refine blk_drewN ?_ _ | refine blk_drew ?_ | refine blk_alloc ?_ _)); refine blk_put (cs := #[.int .i64 0, .string (⟨#[]⟩ : ByteArray), .int .i64 0]) ?_ 0 _ rfl; (with_reducible repeat (first | refine blk_drewN ?_ _ | refine blk_drew ?_ | refine blk_alloc ?_ _)); exact BK130.out) Try.underlying52 rfl (by kernel_rfl)) rfl ?_
                  exact ⟨by first | with_reducible rfl | (simp [errW_none, errW_some]; done) | rfl | (simp [errW_none, errW_some] <;> rfl) | (simp [*, errW_none, errW_some] <;> rfl), by repeat (first | (with_reducible first | exact HB.out | apply below_alloc | apply pw_below_drewN | apply below_drew1 | refine below_set ?_ GE130.out) | exact HB.out)⟩
                · rw [if_neg c23] at H
                  exact absurd H (by simp)
    · rw [if_neg c4] at H
      exact absurd H (by simp)
  · rw [if_neg c2] at H
    exact absurd H (by simp)

end Go.Proofs.Ytbohpjbcjnapfaa.X
