-- By a program of this session (wip/xprint.py over the kit's print).
import Derived.Test.YtdhkcklgnnilfaaX0
import Derived.Test.YtdhkcklgnnilfaaX10
import Derived.Test.YtdhkcklgnnilfaaX11
import Derived.Test.YtdhkcklgnnilfaaX13
namespace Go.Proofs.Ytdhkcklgnnilfaa.X
open Go.RowKit Go.Proofs.YtdhkcklgnnilfaaW.PrintWords Go.Proofs.YtdhkcklgnnilfaaW.PrintLast Go.Proofs.YtdhkcklgnnilfaaW.PrintMore
attribute [local go_sem] Go.Proofs.Ytdhkcklgnnilfaa.Z.leq_string Go.Proofs.Ytdhkcklgnnilfaa.Z.gtr_string Go.Proofs.Ytdhkcklgnnilfaa.Z.geq_string   -- for this text's walks alone
set_option linter.unusedVariables false
set_option linter.unusedSimpArgs false

/-! ### cofferref13_Right: function 18 -/
def cofferref13_Right.j0 : Nat → Bool → ByteArray → Int → Bool → ByteArray → List (S31) → Option (Int)
  | 0, _, _, _, _, _, _ => none
  | k + 1, x11, x166000, x166001, x166002, x166003, x166004 => if x11 = true then (some 1) else ((cofferref12_Key.f x166000).bind fun t166 => (if t166 = 0 then (if x166002 = true then (if x166003.toList = ([] : List UInt8) then (if (x166004.length : Int) > 0 then (some 62) else (some 0)) else (some 63)) else ((cofferref12_Data.f x166003).bind fun t167 => (if t167 = 0 then ((cofferref12_Meta.f k x166004).bind fun t168 => (some t168)) else (some t167)))) else (some t166)))
def cofferref13_Right.f (k : Nat) (a0_0 : ByteArray) (a0_1 : Int) (a0_2 : Bool) (a0_3 : ByteArray) (l0_4 : List (S31)) : Option (Int) := if a0_1 < 1 then (cofferref13_Right.j0 k true a0_0 a0_1 a0_2 a0_3 l0_4) else (cofferref13_Right.j0 k (decide (a0_1 > 1099511627776)) a0_0 a0_1 a0_2 a0_3 l0_4)
theorem cofferref13_Right.mono_l : ∀ k, (∀ y0 y1 y2 y3 y4 y5, LeO (cofferref13_Right.j0 k y0 y1 y2 y3 y4 y5) (cofferref13_Right.j0 (k + 1) y0 y1 y2 y3 y4 y5))
  | 0 => fun _ _ _ _ _ _ r h => by simp [cofferref13_Right.j0] at h
  | k + 1 => by
    have ih0 := cofferref13_Right.mono_l k
    · intro y0 y1 y2 y3 y4 y5
      unfold cofferref13_Right.j0
      repeat' first
      | (with_reducible exact ih0 _ _ _ _ _ _)
      | (with_reducible exact cofferref12_Meta.mono _ _)
      | (with_reducible exact LeO.refl _)
      | (with_reducible exact LeO.none _)
      | (with_reducible refine LeO.ite ?_ ?_)
      | (with_reducible refine LeO.bind ?_ (fun _ => ?_))
      | exact ih0 _ _ _ _ _ _
      | exact cofferref12_Meta.mono _ _
      | exact LeO.none _
      | refine LeO.ite ?_ ?_
      | refine LeO.bind ?_ (fun _ => ?_)
theorem cofferref13_Right.mono : ∀ a0 a1 a2 a3 a4 k, LeO (cofferref13_Right.f k a0 a1 a2 a3 a4) (cofferref13_Right.f (k + 1) a0 a1 a2 a3 a4) := by
  intro a0 a1 a2 a3 a4 k
  have ih0 := cofferref13_Right.mono_l k
  unfold cofferref13_Right.f
  repeat' first
      | (with_reducible exact ih0 _ _ _ _ _ _)
      | (with_reducible exact cofferref12_Meta.mono _ _)
      | (with_reducible exact LeO.refl _)
      | (with_reducible exact LeO.none _)
      | (with_reducible refine LeO.ite ?_ ?_)
      | (with_reducible refine LeO.bind ?_ (fun _ => ?_))
      | exact ih0 _ _ _ _ _ _
      | exact cofferref12_Meta.mono _ _
      | exact LeO.none _
      | refine LeO.ite ?_ ?_
      | refine LeO.bind ?_ (fun _ => ?_)
set_option maxHeartbeats 8000000 in
set_option maxRecDepth 100000 in
theorem cofferref13_Right.calls (k : Nat) (a0_0 : ByteArray) (a0_1 : Int) (a0_2 : Bool) (a0_3 : ByteArray) (A0_4 : Option Addr) (c0_4 : Nat) (l0_4 : List (S31)) (r : Int) (w : World) (hr0_4 : Kd.C k31 w A0_4 l0_4.length l0_4) (hc0_4 : l0_4.length ≤ c0_4) (h : cofferref13_Right.f k a0_0 a0_1 a0_2 a0_3 l0_4 = some r) :
    Calls Try.prog 18 #[.agg #[.string a0_0, .int .i64 a0_1, .bool a0_2, .string a0_3, .slice A0_4 l0_4.length c0_4]] w fun e w' => e = .returned (.int .i64 r) ∧ Below w.heap.size w w' := by
  have hu24 := Try.underlying24
  have HR0_4 := Aside0.mk hr0_4
  have HC0_4 := Aside0.mk hc0_4
  clear hr0_4 hc0_4
  have HB := Aside0.mk (Below.refl w.heap.size w)
  have H : (if a0_1 < 1 then (cofferref13_Right.j0 k true a0_0 a0_1 a0_2 a0_3 l0_4) else (cofferref13_Right.j0 k (decide (a0_1 > 1099511627776)) a0_0 a0_1 a0_2 a0_3 l0_4)) = some r := h
  clear h
  have HC2 := Aside0.mk H
  clear H
  go_enter Try.func18, Try.ntmps18
  go_upto_region 1 with (first | ((with_reducible refine gate_dst (N := 1) rfl ?_); refine box_event ?hg (N := 1) ?hd (cs := #[.string a0_0, .int .i64 a0_1, .bool a0_2, .string a0_3, .slice A0_4 l0_4.length c0_4]) (t := 24) ?hr ?_; (case hd => rfl); (case hg => rfl); (case hr => first | (go_simp; done) | (go_simp; rfl)); intro gb165 hg w3 hbox hb; have n0_ := Aside0.mk (below_step (by repeat (first | (with_reducible first | exact HB.out | apply below_alloc | apply pw_below_drewN | apply below_drew1) | exact HB.out)) hb); have n1_ := Aside0.mk (hbox); have n2_ := Aside0.mk ((by rw [hg]; exact (below_size (by repeat (first | (with_reducible first | exact HB.out | apply below_alloc | apply pw_below_drewN | apply below_drew1) | exact HB.out))) : w.heap.size ≤ gb165)); have n3_ := Aside0.mk ((by rw [hg]; exact (below_size (by repeat (first | (with_reducible first | exact HB.out | apply below_alloc | apply pw_below_drewN | apply below_drew1) | exact HB.out))) : w.heap.size ≤ gb165)); clear HB; have HB := n0_; have BK165 := n1_; have GW165 := n2_; have GE165 := n3_; clear n0_ n1_ n2_ n3_; clear hb hbox hg))
  (try simp only [Act.put, List.setIfInBounds_toArray, List.set_cons_zero, List.set_cons_succ])
  go_cut [11] (fun v11 wc => ∃ (kq : Nat) (x11_1 : Bool), v11 = .bool x11_1 ∧ Aside0 (cofferref13_Right.j0 kq x11_1 a0_0 a0_1 a0_2 a0_3 l0_4 = some r) ∧ Aside0 (kq ≤ k) ∧ Aside0 (wc.heap[gb165]? = some (.cells #[.string a0_0, .int .i64 a0_1, .bool a0_2, .string a0_3, (.slice A0_4 l0_4.length c0_4)] 24 (0, 0))) ∧ Aside0 (Below w.heap.size w wc))
  case first =>
    have H := HC2.out
    clear HC2
    by_cases c4 : a0_1 < 1
    · rw [if_pos c4] at H
      have c4b0 : decide (a0_1 < 1) = true := decide_eq_true c4
      clear c4
      (first | rw [c4b0] | (simp only [i64_w, i32_w]; rw [c4b0]) | rw [c4b1] | skip)
      have H' := Aside0.mk H
      clear H
      have hcz5_0 : w3.cell? ⟨gb165, 0, none⟩ = some (.string a0_0) := (blk_cell BK165.out 0).trans rfl
      have hcz5_1 : w3.cell? ⟨gb165, 1, none⟩ = some (.int .i64 a0_1) := (blk_cell BK165.out 1).trans rfl
      have hcz5_2 : w3.cell? ⟨gb165, 2, none⟩ = some (.bool a0_2) := (blk_cell BK165.out 2).trans rfl
      have hcz5_3 : w3.cell? ⟨gb165, 3, none⟩ = some (.string a0_3) := (blk_cell BK165.out 3).trans rfl
      have hcz5_4 : w3.cell? ⟨gb165, 4, none⟩ = some (.slice A0_4 l0_4.length c0_4) := (blk_cell BK165.out 4).trans rfl
      have hfz5_0 := blk_frozen BK165.out 0
      have hfz5_1 := blk_frozen BK165.out 1
      have hfz5_2 := blk_frozen BK165.out 2
      have hfz5_3 := blk_frozen BK165.out 3
      have hfz5_4 := blk_frozen BK165.out 4
      go_wp2
      go_meet
      case rel => exact ⟨_, (true), (by first | rfl | (simp; done) | (simp [Go.Proofs.Ytdhkcklgnnilfaa.Z.bne_nil, Go.Proofs.Ytdhkcklgnnilfaa.Z.beq_nil]; done) | (simp [*]; done)), H', ⟨by first | omega | exact Nat.le_refl _⟩, ⟨by (with_reducible repeat (first | refine blk_drewN ?_ _ | refine blk_drew ?_ | refine blk_alloc ?_ _)); exact BK165.out⟩, ⟨by repeat (first | (with_reducible first | exact HB.out | apply below_alloc | apply pw_below_drewN | apply below_drew1 | refine below_set ?_ GE165.out) | exact HB.out)⟩⟩
    · rw [if_neg c4] at H
      have c4b0 : decide (a0_1 < 1) = false := decide_eq_false c4
      clear c4
      (first | rw [c4b0] | (simp only [i64_w, i32_w]; rw [c4b0]) | rw [c4b1] | skip)
      have H' := Aside0.mk H
      clear H
      have hcz6_0 : w3.cell? ⟨gb165, 0, none⟩ = some (.string a0_0) := (blk_cell BK165.out 0).trans rfl
      have hcz6_1 : w3.cell? ⟨gb165, 1, none⟩ = some (.int .i64 a0_1) := (blk_cell BK165.out 1).trans rfl
      have hcz6_2 : w3.cell? ⟨gb165, 2, none⟩ = some (.bool a0_2) := (blk_cell BK165.out 2).trans rfl
      have hcz6_3 : w3.cell? ⟨gb165, 3, none⟩ = some (.string a0_3) := (blk_cell BK165.out 3).trans rfl
      have hcz6_4 : w3.cell? ⟨gb165, 4, none⟩ = some (.slice A0_4 l0_4.length c0_4) := (blk_cell BK165.out 4).trans rfl
      have hfz6_0 := blk_frozen BK165.out 0
      have hfz6_1 := blk_frozen BK165.out 1
      have hfz6_2 := blk_frozen BK165.out 2
      have hfz6_3 := blk_frozen BK165.out 3
      have hfz6_4 := blk_frozen BK165.out 4
      go_wp2
      go_meet
      case rel => exact ⟨_, (decide (a0_1 > 1099511627776)), (by first | rfl | (simp; done) | (simp [Go.Proofs.Ytdhkcklgnnilfaa.Z.bne_nil, Go.Proofs.Ytdhkcklgnnilfaa.Z.beq_nil]; done) | (simp [*]; done)), H', ⟨by first | omega | exact Nat.le_refl _⟩, ⟨by (with_reducible repeat (first | refine blk_drewN ?_ _ | refine blk_drew ?_ | refine blk_alloc ?_ _)); exact BK165.out⟩, ⟨by repeat (first | (with_reducible first | exact HB.out | apply below_alloc | apply pw_below_drewN | apply below_drew1 | refine below_set ?_ GE165.out) | exact HB.out)⟩⟩
  case rest =>
    clear HC2
    try clear c1
    try clear p2
    try clear c4
    try clear c4b0
    try clear c4b1
    try clear hcz5_0
    try clear hcz5_1
    try clear hcz5_2
    try clear hcz5_3
    try clear hcz5_4
    try clear hcz6_0
    try clear hcz6_1
    try clear hcz6_2
    try clear hcz6_3
    try clear hcz6_4
    try clear hfz5_0
    try clear hfz5_1
    try clear hfz5_2
    try clear hfz5_3
    try clear hfz5_4
    try clear hfz6_0
    try clear hfz6_1
    try clear hfz6_2
    try clear hfz6_3
    try clear hfz6_4
    obtain ⟨kq, x11_1, rfl, HA, HJ1, BK165, HB⟩ := hcut
    cases kq with
    | zero => exact absurd HA.out (by simp [cofferref13_Right.j0])
    | succ kj1 =>
      have H := HA.out
      clear HA
      simp only [cofferref13_Right.j0] at H
      by_cases c7 : x11_1 = true
      · subst c7
        have H1 : (some 1) = some r := by rw [if_pos rfl] at H; exact H
        clear H
        have H := H1
        clear H1
        obtain rfl := Option.some.inj H
        go_wp2
        go_ret
        exact ⟨by first | rfl | (simp [errW_none, errW_some] <;> rfl) | (simp [*, errW_none, errW_some] <;> rfl), by repeat (first | (with_reducible first | exact HB.out | apply below_alloc | apply pw_below_drewN | apply below_drew1 | refine below_set ?_ GE165.out) | exact HB.out)⟩
      · replace c7 := Bool.eq_false_iff.mpr c7
        subst c7
        have H1 : ((cofferref12_Key.f a0_0).bind fun t166 => (if t166 = 0 then (if a0_2 = true then (if a0_3.toList = ([] : List UInt8) then (if (l0_4.length : Int) > 0 then (some 62) else (some 0)) else (some 63)) else ((cofferref12_Data.f a0_3).bind fun t167 => (if t167 = 0 then ((cofferref12_Meta.f kj1 l0_4).bind fun t168 => (some t168)) else (some t167)))) else (some t166))) = some r := by rw [if_neg (show ¬ (false = true) by decide)] at H; exact H
        clear H
        have H := H1
        clear H1
        replace H := Option.bind_eq_some_iff.mp H
        obtain ⟨t166, A80, H⟩ := H
        replace H : (if t166 = 0 then (if a0_2 = true then (if a0_3.toList = ([] : List UInt8) then (if (l0_4.length : Int) > 0 then (some 62) else (some 0)) else (some 63)) else ((cofferref12_Data.f a0_3).bind fun t167 => (if t167 = 0 then ((cofferref12_Meta.f kj1 l0_4).bind fun t168 => (some t168)) else (some t167)))) else (some t166)) = some r := H
        have A8 := Aside0.mk A80
        clear A80
        by_cases c9 : t166 = 0
        · rw [if_pos c9] at H
          have c9b0 : (t166 == 0) = true := beq_iff_eq.mpr c9
          have c9b1 : (t166 != 0) = false := bne_eq_false_iff_eq.mpr c9
          clear c9
          by_cases c10 : a0_2 = true
          · subst c10
            have H1 : (if a0_3.toList = ([] : List UInt8) then (if (l0_4.length : Int) > 0 then (some 62) else (some 0)) else (some 63)) = some r := by rw [if_pos rfl] at H; exact H
            clear H
            have H := H1
            clear H1
            by_cases c11 : a0_3.toList = ([] : List UInt8)
            · rw [if_pos c11] at H
              have c11b0 : (a0_3.toList == ([] : List UInt8)) = true := beq_iff_eq.mpr c11
              have c11b1 : (a0_3.toList != ([] : List UInt8)) = false := bne_eq_false_iff_eq.mpr c11
              clear c11
              by_cases c12 : (l0_4.length : Int) > 0
              · rw [if_pos c12] at H
                have c12b0 : decide (0 < (l0_4.length : Int)) = true := decide_eq_true c12
                have c12b1 : decide (0 < l0_4.length) = true := decide_eq_true (by omega)
                clear c12
                obtain rfl := Option.some.inj H
                have hcz13_0 : wc.cell? ⟨gb165, 0, none⟩ = some (.string a0_0) := (blk_cell BK165.out 0).trans rfl
                have hcz13_1 : wc.cell? ⟨gb165, 1, none⟩ = some (.int .i64 a0_1) := (blk_cell BK165.out 1).trans rfl
                have hcz13_2 : wc.cell? ⟨gb165, 2, none⟩ = some (.bool true) := (blk_cell BK165.out 2).trans rfl
                have hcz13_3 : wc.cell? ⟨gb165, 3, none⟩ = some (.string a0_3) := (blk_cell BK165.out 3).trans rfl
                have hcz13_4 : wc.cell? ⟨gb165, 4, none⟩ = some (.slice A0_4 l0_4.length c0_4) := (blk_cell BK165.out 4).trans rfl
                have hfz13_0 := blk_frozen BK165.out 0
                have hfz13_1 := blk_frozen BK165.out 1
                have hfz13_2 := blk_frozen BK165.out 2
                have hfz13_3 := blk_frozen BK165.out 3
                have hfz13_4 := blk_frozen BK165.out 4
                go_wp2_with (first | ((with_reducible refine gate_callee (f := 28) rfl ?_); refine goesL_ (some 14) rfl rfl Try.func28 (by kernel_rfl) rfl #[.string a0_0] rfl (by (try simp only [List.map_toArray, List.map_cons, List.map_nil]); first | done | rfl | (simp only [List.length_drop, List.length_take]; rfl)) ?_; (with_reducible refine (cofferref12_Key.calls a0_0 t166 _ A8.out).mono ?_); rintro e w' ⟨rfl, ⟨nd, rfl⟩⟩; refine ⟨_, rfl, ?_⟩))
                go_ret
                exact ⟨by first | rfl | (simp [errW_none, errW_some] <;> rfl) | (simp [*, errW_none, errW_some] <;> rfl), by repeat (first | (with_reducible first | exact HB.out | apply below_alloc | apply pw_below_drewN | apply below_drew1 | refine below_set ?_ GE165.out) | exact HB.out)⟩
              · rw [if_neg c12] at H
                have c12b0 : decide (0 < (l0_4.length : Int)) = false := decide_eq_false c12
                have c12b1 : decide (0 < l0_4.length) = false := decide_eq_false (by omega)
                clear c12
                obtain rfl := Option.some.inj H
                have hcz14_0 : wc.cell? ⟨gb165, 0, none⟩ = some (.string a0_0) := (blk_cell BK165.out 0).trans rfl
                have hcz14_1 : wc.cell? ⟨gb165, 1, none⟩ = some (.int .i64 a0_1) := (blk_cell BK165.out 1).trans rfl
                have hcz14_2 : wc.cell? ⟨gb165, 2, none⟩ = some (.bool true) := (blk_cell BK165.out 2).trans rfl
                have hcz14_3 : wc.cell? ⟨gb165, 3, none⟩ = some (.string a0_3) := (blk_cell BK165.out 3).trans rfl
                have hcz14_4 : wc.cell? ⟨gb165, 4, none⟩ = some (.slice A0_4 l0_4.length c0_4) := (blk_cell BK165.out 4).trans rfl
                have hfz14_0 := blk_frozen BK165.out 0
                have hfz14_1 := blk_frozen BK165.out 1
                have hfz14_2 := blk_frozen BK165.out 2
                have hfz14_3 := blk_frozen BK165.out 3
                have hfz14_4 := blk_frozen BK165.out 4
                go_wp2_with (first | ((with_reducible refine gate_callee (f := 28) rfl ?_); refine goesL_ (some 14) rfl rfl Try.func28 (by kernel_rfl) rfl #[.string a0_0] rfl (by (try simp only [List.map_toArray, List.map_cons, List.map_nil]); first | done | rfl | (simp only [List.length_drop, List.length_take]; rfl)) ?_; (with_reducible refine (cofferref12_Key.calls a0_0 t166 _ A8.out).mono ?_); rintro e w' ⟨rfl, ⟨nd, rfl⟩⟩; refine ⟨_, rfl, ?_⟩))
                go_ret
                exact ⟨by first | rfl | (simp [errW_none, errW_some] <;> rfl) | (simp [*, errW_none, errW_some] <;> rfl), by repeat (first | (with_reducible first | exact HB.out | apply below_alloc | apply pw_below_drewN | apply below_drew1 | refine below_set ?_ GE165.out) | exact HB.out)⟩
            · rw [if_neg c11] at H
              have c11b0 : (a0_3.toList == ([] : List UInt8)) = false := beq_eq_false_iff_ne.mpr c11
              have c11b1 : (a0_3.toList != ([] : List UInt8)) = true := bne_iff_ne.mpr c11
              obtain rfl := Option.some.inj H
              have hcz15_0 : wc.cell? ⟨gb165, 0, none⟩ = some (.string a0_0) := (blk_cell BK165.out 0).trans rfl
              have hcz15_1 : wc.cell? ⟨gb165, 1, none⟩ = some (.int .i64 a0_1) := (blk_cell BK165.out 1).trans rfl
              have hcz15_2 : wc.cell? ⟨gb165, 2, none⟩ = some (.bool true) := (blk_cell BK165.out 2).trans rfl
              have hcz15_3 : wc.cell? ⟨gb165, 3, none⟩ = some (.string a0_3) := (blk_cell BK165.out 3).trans rfl
              have hcz15_4 : wc.cell? ⟨gb165, 4, none⟩ = some (.slice A0_4 l0_4.length c0_4) := (blk_cell BK165.out 4).trans rfl
              have hfz15_0 := blk_frozen BK165.out 0
              have hfz15_1 := blk_frozen BK165.out 1
              have hfz15_2 := blk_frozen BK165.out 2
              have hfz15_3 := blk_frozen BK165.out 3
              have hfz15_4 := blk_frozen BK165.out 4
              go_wp2_with (first | ((with_reducible refine gate_callee (f := 28) rfl ?_); refine goesL_ (some 14) rfl rfl Try.func28 (by kernel_rfl) rfl #[.string a0_0] rfl (by (try simp only [List.map_toArray, List.map_cons, List.map_nil]); first | done | rfl | (simp only [List.length_drop, List.length_take]; rfl)) ?_; (with_reducible refine (cofferref12_Key.calls a0_0 t166 _ A8.out).mono ?_); rintro e w' ⟨rfl, ⟨nd, rfl⟩⟩; refine ⟨_, rfl, ?_⟩))
              go_ret
              exact ⟨by first | rfl | (simp [errW_none, errW_some] <;> rfl) | (simp [*, errW_none, errW_some] <;> rfl), by repeat (first | (with_reducible first | exact HB.out | apply below_alloc | apply pw_below_drewN | apply below_drew1 | refine below_set ?_ GE165.out) | exact HB.out)⟩
          · replace c10 := Bool.eq_false_iff.mpr c10
            subst c10
            have H1 : ((cofferref12_Data.f a0_3).bind fun t167 => (if t167 = 0 then ((cofferref12_Meta.f kj1 l0_4).bind fun t168 => (some t168)) else (some t167))) = some r := by rw [if_neg (show ¬ (false = true) by decide)] at H; exact H
            clear H
            have H := H1
            clear H1
            replace H := Option.bind_eq_some_iff.mp H
            obtain ⟨t167, A160, H⟩ := H
            replace H : (if t167 = 0 then ((cofferref12_Meta.f kj1 l0_4).bind fun t168 => (some t168)) else (some t167)) = some r := H
            have A16 := Aside0.mk A160
            clear A160
            by_cases c17 : t167 = 0
            · rw [if_pos c17] at H
              have c17b0 : (t167 == 0) = true := beq_iff_eq.mpr c17
              have c17b1 : (t167 != 0) = false := bne_eq_false_iff_eq.mpr c17
              clear c17
              replace H := Option.bind_eq_some_iff.mp H
              obtain ⟨t168, A180, H⟩ := H
              replace H : (some t168) = some r := H
              have A18 := Aside0.mk A180
              clear A180
              obtain rfl := Option.some.inj H
              have hcz19_0 : wc.cell? ⟨gb165, 0, none⟩ = some (.string a0_0) := (blk_cell BK165.out 0).trans rfl
              have hcz19_1 : wc.cell? ⟨gb165, 1, none⟩ = some (.int .i64 a0_1) := (blk_cell BK165.out 1).trans rfl
              have hcz19_2 : wc.cell? ⟨gb165, 2, none⟩ = some (.bool false) := (blk_cell BK165.out 2).trans rfl
              have hcz19_3 : wc.cell? ⟨gb165, 3, none⟩ = some (.string a0_3) := (blk_cell BK165.out 3).trans rfl
              have hcz19_4 : wc.cell? ⟨gb165, 4, none⟩ = some (.slice A0_4 l0_4.length c0_4) := (blk_cell BK165.out 4).trans rfl
              have hfz19_0 := blk_frozen BK165.out 0
              have hfz19_1 := blk_frozen BK165.out 1
              have hfz19_2 := blk_frozen BK165.out 2
              have hfz19_3 := blk_frozen BK165.out 3
              have hfz19_4 := blk_frozen BK165.out 4
              go_wp2_with (first | ((with_reducible refine gate_callee (f := 28) rfl ?_); refine goesL_ (some 14) rfl rfl Try.func28 (by kernel_rfl) rfl #[.string a0_0] rfl (by (try simp only [List.map_toArray, List.map_cons, List.map_nil]); first | done | rfl | (simp only [List.length_drop, List.length_take]; rfl)) ?_; (with_reducible refine (cofferref12_Key.calls a0_0 t166 _ A8.out).mono ?_); rintro e w' ⟨rfl, ⟨nd, rfl⟩⟩; refine ⟨_, rfl, ?_⟩) | ((with_reducible refine gate_callee (f := 29) rfl ?_); refine goesL_ (some 29) rfl rfl Try.func29 (by kernel_rfl) rfl #[.string a0_3] rfl (by (try simp only [List.map_toArray, List.map_cons, List.map_nil]); first | done | rfl | (simp only [List.length_drop, List.length_take]; rfl)) ?_; (with_reducible refine (cofferref12_Data.calls a0_3 t167 _ A16.out).mono ?_); rintro e w' ⟨rfl, ⟨nd, rfl⟩⟩; refine ⟨_, rfl, ?_⟩) | ((with_reducible refine gate_callee (f := 30) rfl ?_); refine goesL_ (some 35) rfl rfl Try.func30 (by kernel_rfl) rfl #[.slice A0_4 l0_4.length c0_4] rfl (by (try simp only [List.map_toArray, List.map_cons, List.map_nil]); first | done | rfl | (simp only [List.length_drop, List.length_take]; rfl)) ?_; (with_reducible refine (cofferref12_Meta.calls kj1 _ _ l0_4 t168 _ ?side1 ?side2 A18.out).mono ?_); (case side1 => repeat (first | exact (Kd.C_below HR0_4.out (by repeat (first | (with_reducible first | exact HB.out | apply below_alloc | apply pw_below_drewN | apply below_drew1 | refine below_set ?_ GE165.out) | exact HB.out))) | (with_reducible refine Kd.C_alloc ?_ _) | (with_reducible refine Kd.C_drewN ?_ _) | (with_reducible refine Kd.C_drew ?_))); (case side2 => exact HC0_4.out); rintro e w20 ⟨rfl, hb⟩; refine ⟨_, rfl, ?_⟩; have n0_ := Aside0.mk (blk_below (g := gb165) (o := .cells #[.string a0_0, .int .i64 a0_1, .bool false, .string a0_3, .slice A0_4 l0_4.length c0_4] 24 (0, 0)) (by (with_reducible repeat (first | refine blk_drewN ?_ _ | refine blk_drew ?_ | refine blk_alloc ?_ _)); exact BK165.out) hb); have n1_ := Aside0.mk (below_step (by repeat (first | (with_reducible first | exact HB.out | apply below_alloc | apply pw_below_drewN | apply below_drew1 | refine below_set ?_ GE165.out) | exact HB.out)) hb); clear BK165; clear HB; have BK165 := n0_; have HB := n1_; clear n0_ n1_; (try clear hb); (try clear hb2); (try clear hk); (try clear hi)))
              go_ret
              exact ⟨by first | rfl | (simp [errW_none, errW_some] <;> rfl) | (simp [*, errW_none, errW_some] <;> rfl), by repeat (first | (with_reducible first | exact HB.out | apply below_alloc | apply pw_below_drewN | apply below_drew1 | refine below_set ?_ GE165.out) | exact HB.out)⟩
            · rw [if_neg c17] at H
              have c17b0 : (t167 == 0) = false := beq_eq_false_iff_ne.mpr c17
              have c17b1 : (t167 != 0) = true := bne_iff_ne.mpr c17
              obtain rfl := Option.some.inj H
              have hcz21_0 : wc.cell? ⟨gb165, 0, none⟩ = some (.string a0_0) := (blk_cell BK165.out 0).trans rfl
              have hcz21_1 : wc.cell? ⟨gb165, 1, none⟩ = some (.int .i64 a0_1) := (blk_cell BK165.out 1).trans rfl
              have hcz21_2 : wc.cell? ⟨gb165, 2, none⟩ = some (.bool false) := (blk_cell BK165.out 2).trans rfl
              have hcz21_3 : wc.cell? ⟨gb165, 3, none⟩ = some (.string a0_3) := (blk_cell BK165.out 3).trans rfl
              have hcz21_4 : wc.cell? ⟨gb165, 4, none⟩ = some (.slice A0_4 l0_4.length c0_4) := (blk_cell BK165.out 4).trans rfl
              have hfz21_0 := blk_frozen BK165.out 0
              have hfz21_1 := blk_frozen BK165.out 1
              have hfz21_2 := blk_frozen BK165.out 2
              have hfz21_3 := blk_frozen BK165.out 3
              have hfz21_4 := blk_frozen BK165.out 4
              go_wp2_with (first | ((with_reducible refine gate_callee (f := 28) rfl ?_); refine goesL_ (some 14) rfl rfl Try.func28 (by kernel_rfl) rfl #[.string a0_0] rfl (by (try simp only [List.map_toArray, List.map_cons, List.map_nil]); first | done | rfl | (simp only [List.length_drop, List.length_take]; rfl)) ?_; (with_reducible refine (cofferref12_Key.calls a0_0 t166 _ A8.out).mono ?_); rintro e w' ⟨rfl, ⟨nd, rfl⟩⟩; refine ⟨_, rfl, ?_⟩) | ((with_reducible refine gate_callee (f := 29) rfl ?_); refine goesL_ (some 29) rfl rfl Try.func29 (by kernel_rfl) rfl #[.string a0_3] rfl (by (try simp only [List.map_toArray, List.map_cons, List.map_nil]); first | done | rfl | (simp only [List.length_drop, List.length_take]; rfl)) ?_; (with_reducible refine (cofferref12_Data.calls a0_3 t167 _ A16.out).mono ?_); rintro e w' ⟨rfl, ⟨nd, rfl⟩⟩; refine ⟨_, rfl, ?_⟩))
              go_ret
              exact ⟨by first | rfl | (simp [errW_none, errW_some] <;> rfl) | (simp [*, errW_none, errW_some] <;> rfl), by repeat (first | (with_reducible first | exact HB.out | apply below_alloc | apply pw_below_drewN | apply below_drew1 | refine below_set ?_ GE165.out) | exact HB.out)⟩
        · rw [if_neg c9] at H
          have c9b0 : (t166 == 0) = false := beq_eq_false_iff_ne.mpr c9
          have c9b1 : (t166 != 0) = true := bne_iff_ne.mpr c9
          obtain rfl := Option.some.inj H
          have hcz22_0 : wc.cell? ⟨gb165, 0, none⟩ = some (.string a0_0) := (blk_cell BK165.out 0).trans rfl
          have hcz22_1 : wc.cell? ⟨gb165, 1, none⟩ = some (.int .i64 a0_1) := (blk_cell BK165.out 1).trans rfl
          have hcz22_2 : wc.cell? ⟨gb165, 2, none⟩ = some (.bool a0_2) := (blk_cell BK165.out 2).trans rfl
          have hcz22_3 : wc.cell? ⟨gb165, 3, none⟩ = some (.string a0_3) := (blk_cell BK165.out 3).trans rfl
          have hcz22_4 : wc.cell? ⟨gb165, 4, none⟩ = some (.slice A0_4 l0_4.length c0_4) := (blk_cell BK165.out 4).trans rfl
          have hfz22_0 := blk_frozen BK165.out 0
          have hfz22_1 := blk_frozen BK165.out 1
          have hfz22_2 := blk_frozen BK165.out 2
          have hfz22_3 := blk_frozen BK165.out 3
          have hfz22_4 := blk_frozen BK165.out 4
          go_wp2_with (first | ((with_reducible refine gate_callee (f := 28) rfl ?_); refine goesL_ (some 14) rfl rfl Try.func28 (by kernel_rfl) rfl #[.string a0_0] rfl (by (try simp only [List.map_toArray, List.map_cons, List.map_nil]); first | done | rfl | (simp only [List.length_drop, List.length_take]; rfl)) ?_; (with_reducible refine (cofferref12_Key.calls a0_0 t166 _ A8.out).mono ?_); rintro e w' ⟨rfl, ⟨nd, rfl⟩⟩; refine ⟨_, rfl, ?_⟩))
          go_ret
          exact ⟨by first | rfl | (simp [errW_none, errW_some] <;> rfl) | (simp [*, errW_none, errW_some] <;> rfl), by repeat (first | (with_reducible first | exact HB.out | apply below_alloc | apply pw_below_drewN | apply below_drew1 | refine below_set ?_ GE165.out) | exact HB.out)⟩

end Go.Proofs.Ytdhkcklgnnilfaa.X
