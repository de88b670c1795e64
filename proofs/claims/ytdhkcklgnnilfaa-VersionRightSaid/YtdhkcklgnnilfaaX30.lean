-- By a program of this session (wip/xprint.py over the kit's print).
import Derived.Test.YtdhkcklgnnilfaaX0
import Derived.Test.YtdhkcklgnnilfaaX9
import Derived.Test.YtdhkcklgnnilfaaX23
namespace Go.Proofs.Ytdhkcklgnnilfaa.X
open Go.RowKit Go.Proofs.YtdhkcklgnnilfaaW.PrintWords Go.Proofs.YtdhkcklgnnilfaaW.PrintLast Go.Proofs.YtdhkcklgnnilfaaW.PrintMore
attribute [local go_sem] max2_int min2_int max_two min_two max_three min_three max_four min_four Go.Proofs.Ytdhkcklgnnilfaa.Z.leq_string Go.Proofs.Ytdhkcklgnnilfaa.Z.gtr_string Go.Proofs.Ytdhkcklgnnilfaa.Z.geq_string   -- for this text's walks alone
set_option linter.unusedVariables false
set_option linter.unusedSimpArgs false

/-! ### cofferlaw13_VersionRight: function 6 -/
mutual
def cofferlaw13_VersionRight.j0 : Nat → ByteArray → ByteArray → Int → Bool → Int → Option (Bool)
  | 0, _, _, _, _, _ => none
  | k + 1, x0, x1, x2, x3, x4 => if (x1.size : Int) > 1024 then (if 0 ≤ 1024 then (if 1024 ≤ (x1.size : Int) then (cofferlaw13_VersionRight.j1 k x0 (x1.extract 0 1024) x2 x3 x4) else (none)) else (none)) else (cofferlaw13_VersionRight.j1 k x0 x1 x2 x3 x4)
def cofferlaw13_VersionRight.j1 : Nat → ByteArray → ByteArray → Int → Bool → Int → Option (Bool)
  | 0, _, _, _, _, _ => none
  | k + 1, x0, x1, x2, x3, x4 => if x0.size + 1 ≤ 9223372036854775807 then (if x3 = true then (cofferlaw13_VersionRight.j2 k x4 (x0 ++ (⟨#[107]⟩ : ByteArray)) (wrap64 (1 + (Go.bits .and .i64 x2 1099511627775))) true (⟨#[]⟩ : ByteArray) ([] : List (S31))) else (cofferlaw13_VersionRight.j2 k x4 (x0 ++ (⟨#[107]⟩ : ByteArray)) (wrap64 (1 + (Go.bits .and .i64 x2 1099511627775))) false x1 (([(⟨(⟨#[97]⟩ : ByteArray), (⟨#[49]⟩ : ByteArray)⟩ : S31), (⟨(⟨#[98]⟩ : ByteArray), (⟨#[]⟩ : ByteArray)⟩ : S31)] : List (S31))))) else (none)
def cofferlaw13_VersionRight.j2 : Nat → Int → ByteArray → Int → Bool → ByteArray → List (S31) → Option (Bool)
  | 0, _, _, _, _, _, _ => none
  | k + 1, x4, x410000, x410001, x410002, x410003, x410004 => (version_Write.f k x410000 x410001 x410002 x410003 x410004).bind fun bt410 => (if bt410.2 = 0 then (if (Go.bits .and .i64 x4 7) = 0 then ((version_Write.f k (⟨#[]⟩ : ByteArray) 0 x410002 x410003 x410004).bind fun bt412 => (if bt412.1.toList = ([] : List UInt8) then (some (bt412.2 == 1)) else (none))) else (if (Go.bits .and .i64 x4 7) = 1 then (if 1025 ≤ 281474976710656 then ((version_Write.f k x410000 1099511627777 x410002 (strOfNums (List.replicate 1025 0)) x410004).bind fun bt417 => (if bt417.1.toList = ([] : List UInt8) then (some (bt417.2 == 1)) else (none))) else (none)) else (if (Go.bits .and .i64 x4 7) = 2 then (if 1025 ≤ 281474976710656 then ((version_Write.f k (⟨#[]⟩ : ByteArray) x410001 x410002 (strOfNums (List.replicate 1025 0)) x410004).bind fun bt422 => (if bt422.1.toList = ([] : List UInt8) then (some (bt422.2 == 61)) else (none))) else (none)) else (if (Go.bits .and .i64 x4 7) = 3 then (if 65 ≤ 281474976710656 then ((version_Write.f k (strOfNums (List.replicate 65 0)) x410001 x410002 x410003 x410004).bind fun bt427 => (if bt427.1.toList = ([] : List UInt8) then (some (bt427.2 == 61)) else (none))) else (none)) else (if (Go.bits .and .i64 x4 7) = 4 then (if 1025 ≤ 281474976710656 then ((some (([(⟨(⟨#[97]⟩ : ByteArray), (⟨#[]⟩ : ByteArray)⟩ : S31), (⟨(⟨#[97]⟩ : ByteArray), (⟨#[]⟩ : ByteArray)⟩ : S31)] : List (S31)) : List (S31))).bind fun y432 => (if x410004.length + y432.length < 4398046511104 then ((version_Write.f k x410000 x410001 x410002 (strOfNums (List.replicate 1025 0)) (x410004 ++ y432)).bind fun bt438 => (if bt438.1.toList = ([] : List UInt8) then (some (bt438.2 == 63)) else (none))) else (none))) else (none)) else (if (Go.bits .and .i64 x4 7) = 5 then ((some (([(⟨(⟨#[97]⟩ : ByteArray), (⟨#[]⟩ : ByteArray)⟩ : S31), (⟨(⟨#[97]⟩ : ByteArray), (⟨#[]⟩ : ByteArray)⟩ : S31)] : List (S31)) : List (S31))).bind fun y440 => (if x410004.length + y440.length < 4398046511104 then ((version_Write.f k x410000 x410001 x410002 x410003 (x410004 ++ y440)).bind fun bt446 => (if bt446.1.toList = ([] : List UInt8) then (some (bt446.2 == 62)) else (none))) else (none))) else (if (Go.bits .and .i64 x4 7) = 6 then ((version_Write.f k x410000 x410001 true (⟨#[120]⟩ : ByteArray) (([(⟨(⟨#[97]⟩ : ByteArray), (⟨#[]⟩ : ByteArray)⟩ : S31)] : List (S31)))).bind fun bt451 => (if bt451.1.toList = ([] : List UInt8) then (some (bt451.2 == 63)) else (none))) else ((version_Write.f k x410000 x410001 true (⟨#[]⟩ : ByteArray) (([(⟨(⟨#[97]⟩ : ByteArray), (⟨#[]⟩ : ByteArray)⟩ : S31)] : List (S31)))).bind fun bt456 => (if bt456.1.toList = ([] : List UInt8) then (some (bt456.2 == 62)) else (none)))))))))) else (none))
end
def cofferlaw13_VersionRight.f (k : Nat) (a0 : ByteArray) (a1 : ByteArray) (a2 : Int) (a3 : Bool) (a4 : Int) : Option (Bool) := (cofferlaw13_first.f k).bind fun t405 => (if t405 = true then (if (a0.size : Int) > 31 then (if 0 ≤ 31 then (if 31 ≤ (a0.size : Int) then (cofferlaw13_VersionRight.j0 k (a0.extract 0 31) a1 a2 a3 a4) else (none)) else (none)) else (cofferlaw13_VersionRight.j0 k a0 a1 a2 a3 a4)) else (none))
theorem cofferlaw13_VersionRight.mono_l : ∀ k, (∀ y0 y1 y2 y3 y4, LeO (cofferlaw13_VersionRight.j0 k y0 y1 y2 y3 y4) (cofferlaw13_VersionRight.j0 (k + 1) y0 y1 y2 y3 y4)) ∧ (∀ y0 y1 y2 y3 y4, LeO (cofferlaw13_VersionRight.j1 k y0 y1 y2 y3 y4) (cofferlaw13_VersionRight.j1 (k + 1) y0 y1 y2 y3 y4)) ∧ (∀ y0 y1 y2 y3 y4 y5, LeO (cofferlaw13_VersionRight.j2 k y0 y1 y2 y3 y4 y5) (cofferlaw13_VersionRight.j2 (k + 1) y0 y1 y2 y3 y4 y5))
  | 0 => ⟨fun _ _ _ _ _ r h => by simp [cofferlaw13_VersionRight.j0] at h, fun _ _ _ _ _ r h => by simp [cofferlaw13_VersionRight.j1] at h, fun _ _ _ _ _ _ r h => by simp [cofferlaw13_VersionRight.j2] at h⟩
  | k + 1 => by
    obtain ⟨ih0, ih1, ih2⟩ := cofferlaw13_VersionRight.mono_l k
    refine ⟨?_, ?_, ?_⟩
    · intro y0 y1 y2 y3 y4
      unfold cofferlaw13_VersionRight.j0
      repeat' first
      | (with_reducible exact ih0 _ _ _ _ _)
      | (with_reducible exact ih1 _ _ _ _ _)
      | (with_reducible exact ih2 _ _ _ _ _ _)
      | (with_reducible exact cofferlaw13_first.mono _)
      | (with_reducible exact version_Write.mono _ _ _ _ _ _)
      | (with_reducible exact LeO.refl _)
      | (with_reducible exact LeO.none _)
      | (with_reducible refine LeO.ite ?_ ?_)
      | (with_reducible refine LeO.bind ?_ (fun _ => ?_))
      | exact ih0 _ _ _ _ _
      | exact ih1 _ _ _ _ _
      | exact ih2 _ _ _ _ _ _
      | exact cofferlaw13_first.mono _
      | exact version_Write.mono _ _ _ _ _ _
      | exact LeO.none _
      | refine LeO.ite ?_ ?_
      | refine LeO.bind ?_ (fun _ => ?_)
    · intro y0 y1 y2 y3 y4
      unfold cofferlaw13_VersionRight.j1
      repeat' first
      | (with_reducible exact ih0 _ _ _ _ _)
      | (with_reducible exact ih1 _ _ _ _ _)
      | (with_reducible exact ih2 _ _ _ _ _ _)
      | (with_reducible exact cofferlaw13_first.mono _)
      | (with_reducible exact version_Write.mono _ _ _ _ _ _)
      | (with_reducible exact LeO.refl _)
      | (with_reducible exact LeO.none _)
      | (with_reducible refine LeO.ite ?_ ?_)
      | (with_reducible refine LeO.bind ?_ (fun _ => ?_))
      | exact ih0 _ _ _ _ _
      | exact ih1 _ _ _ _ _
      | exact ih2 _ _ _ _ _ _
      | exact cofferlaw13_first.mono _
      | exact version_Write.mono _ _ _ _ _ _
      | exact LeO.none _
      | refine LeO.ite ?_ ?_
      | refine LeO.bind ?_ (fun _ => ?_)
    · intro y0 y1 y2 y3 y4 y5
      unfold cofferlaw13_VersionRight.j2
      repeat' first
      | (with_reducible exact ih0 _ _ _ _ _)
      | (with_reducible exact ih1 _ _ _ _ _)
      | (with_reducible exact ih2 _ _ _ _ _ _)
      | (with_reducible exact cofferlaw13_first.mono _)
      | (with_reducible exact version_Write.mono _ _ _ _ _ _)
      | (with_reducible exact LeO.refl _)
      | (with_reducible exact LeO.none _)
      | (with_reducible refine LeO.ite ?_ ?_)
      | (with_reducible refine LeO.bind ?_ (fun _ => ?_))
      | exact ih0 _ _ _ _ _
      | exact ih1 _ _ _ _ _
      | exact ih2 _ _ _ _ _ _
      | exact cofferlaw13_first.mono _
      | exact version_Write.mono _ _ _ _ _ _
      | exact LeO.none _
      | refine LeO.ite ?_ ?_
      | refine LeO.bind ?_ (fun _ => ?_)
theorem cofferlaw13_VersionRight.mono : ∀ a0 a1 a2 a3 a4 k, LeO (cofferlaw13_VersionRight.f k a0 a1 a2 a3 a4) (cofferlaw13_VersionRight.f (k + 1) a0 a1 a2 a3 a4) := by
  intro a0 a1 a2 a3 a4 k
  obtain ⟨ih0, ih1, ih2⟩ := cofferlaw13_VersionRight.mono_l k
  unfold cofferlaw13_VersionRight.f
  repeat' first
      | (with_reducible exact ih0 _ _ _ _ _)
      | (with_reducible exact ih1 _ _ _ _ _)
      | (with_reducible exact ih2 _ _ _ _ _ _)
      | (with_reducible exact cofferlaw13_first.mono _)
      | (with_reducible exact version_Write.mono _ _ _ _ _ _)
      | (with_reducible exact LeO.refl _)
      | (with_reducible exact LeO.none _)
      | (with_reducible refine LeO.ite ?_ ?_)
      | (with_reducible refine LeO.bind ?_ (fun _ => ?_))
      | exact ih0 _ _ _ _ _
      | exact ih1 _ _ _ _ _
      | exact ih2 _ _ _ _ _ _
      | exact cofferlaw13_first.mono _
      | exact version_Write.mono _ _ _ _ _ _
      | exact LeO.none _
      | refine LeO.ite ?_ ?_
      | refine LeO.bind ?_ (fun _ => ?_)
set_option maxHeartbeats 8000000 in
set_option maxRecDepth 100000 in
theorem cofferlaw13_VersionRight.calls (k : Nat) (a0 : ByteArray) (a1 : ByteArray) (a2 : Int) (a3 : Bool) (a4 : Int) (r : Bool) (w : World) (h : cofferlaw13_VersionRight.f k a0 a1 a2 a3 a4 = some r) :
    Calls Try.prog 6 #[.string a0, .string a1, .int .i64 a2, .bool a3, .int .i64 a4] w fun e w' => e = .returned (.bool r) ∧ Below w.heap.size w w' := by
  have hu31 := Try.underlying31
  have hu24 := Try.underlying24
  have HB := Aside0.mk (Below.refl w.heap.size w)
  have H : ((cofferlaw13_first.f k).bind fun t405 => (if t405 = true then (if (a0.size : Int) > 31 then (if 0 ≤ 31 then (if 31 ≤ (a0.size : Int) then (cofferlaw13_VersionRight.j0 k (a0.extract 0 31) a1 a2 a3 a4) else (none)) else (none)) else (cofferlaw13_VersionRight.j0 k a0 a1 a2 a3 a4)) else (none))) = some r := h
  clear h
  replace H := Option.bind_eq_some_iff.mp H
  obtain ⟨t405, A60, H⟩ := H
  replace H : (if t405 = true then (if (a0.size : Int) > 31 then (if 0 ≤ 31 then (if 31 ≤ (a0.size : Int) then (cofferlaw13_VersionRight.j0 k (a0.extract 0 31) a1 a2 a3 a4) else (none)) else (none)) else (cofferlaw13_VersionRight.j0 k a0 a1 a2 a3 a4)) else (none)) = some r := H
  have A6 := Aside0.mk A60
  clear A60
  by_cases c7 : t405 = true
  · subst c7
    have H1 : (if (a0.size : Int) > 31 then (if 0 ≤ 31 then (if 31 ≤ (a0.size : Int) then (cofferlaw13_VersionRight.j0 k (a0.extract 0 31) a1 a2 a3 a4) else (none)) else (none)) else (cofferlaw13_VersionRight.j0 k a0 a1 a2 a3 a4)) = some r := by rw [if_pos rfl] at H; exact H
    clear H
    have H := H1
    clear H1
    have HC8 := Aside0.mk H
    clear H
    go_enter Try.func6, Try.ntmps6
    go_upto_if 20 with (first | ((with_reducible refine gate_callee (f := 12) rfl ?_); refine goesL_ (some 16) rfl rfl Try.func12 (by kernel_rfl) rfl #[] rfl (by (try simp only [List.map_toArray, List.map_cons, List.map_nil]); first | done | rfl | (simp only [List.length_drop, List.length_take]; rfl)) ?_; (with_reducible refine (cofferlaw13_first.calls k  true _ A6.out).mono ?_); rintro e w9 ⟨rfl, hb⟩; refine ⟨_, rfl, ?_⟩; have n0_ := Aside0.mk (below_step (by repeat (first | (with_reducible first | exact HB.out | apply below_alloc | apply pw_below_drewN | apply below_drew1) | exact HB.out)) hb); clear HB; have HB := n0_; clear n0_; (try clear hb); (try clear hb2); (try clear hk); (try clear hi)))
    (try simp only [Act.put, List.setIfInBounds_toArray, List.set_cons_zero, List.set_cons_succ])
    go_cut [0] (fun v0 wc => ∃ (kq : Nat) (x0_7 : ByteArray), v0 = .string x0_7 ∧ Aside0 (cofferlaw13_VersionRight.j0 kq x0_7 a1 a2 a3 a4 = some r) ∧ Aside0 (kq ≤ k) ∧ Aside0 (Below w.heap.size w wc))
    case first =>
      have H := HC8.out
      clear HC8
      by_cases c10 : (a0.size : Int) > 31
      · rw [if_pos c10] at H
        have c10b0 : decide (31 < (a0.size : Int)) = true := decide_eq_true c10
        have c10b1 : decide (31 < a0.size) = true := decide_eq_true (by omega)
        clear c10
        (first | rw [c10b0] | (simp only [i64_w, i32_w]; rw [c10b0]) | rw [c10b1] | skip)
        by_cases c11 : 0 ≤ 31
        · rw [if_pos c11] at H
          have c11b0 := eq_true c11
          have c11b1 : decide (0 ≤ 31) = true := decide_eq_true c11
          clear c11
          by_cases c12 : 31 ≤ (a0.size : Int)
          · rw [if_pos c12] at H
            have c12b0 := eq_true c12
            have c12b1 : decide (31 ≤ (a0.size : Int)) = true := decide_eq_true c12
            clear c12
            have H' := Aside0.mk H
            clear H
            go_wp2
            go_meet
            case rel => exact ⟨_, (a0.extract 0 31), (by first | rfl | (simp; done) | (simp [Go.Proofs.Ytdhkcklgnnilfaa.Z.bne_nil, Go.Proofs.Ytdhkcklgnnilfaa.Z.beq_nil]; done) | (simp [*]; done)), H', ⟨by first | omega | exact Nat.le_refl _⟩, ⟨by repeat (first | (with_reducible first | exact HB.out | apply below_alloc | apply pw_below_drewN | apply below_drew1) | exact HB.out)⟩⟩
          · rw [if_neg c12] at H
            exact absurd H (by simp)
        · rw [if_neg c11] at H
          exact absurd H (by simp)
      · rw [if_neg c10] at H
        have c10b0 : decide (31 < (a0.size : Int)) = false := decide_eq_false c10
        have c10b1 : decide (31 < a0.size) = false := decide_eq_false (by omega)
        clear c10
        (first | rw [c10b0] | (simp only [i64_w, i32_w]; rw [c10b0]) | rw [c10b1] | skip)
        have H' := Aside0.mk H
        clear H
        go_wp2
        go_meet
        case rel => exact ⟨_, (a0), (by first | rfl | (simp; done) | (simp [Go.Proofs.Ytdhkcklgnnilfaa.Z.bne_nil, Go.Proofs.Ytdhkcklgnnilfaa.Z.beq_nil]; done) | (simp [*]; done)), H', ⟨by first | omega | exact Nat.le_refl _⟩, ⟨by repeat (first | (with_reducible first | exact HB.out | apply below_alloc | apply pw_below_drewN | apply below_drew1) | exact HB.out)⟩⟩
    case rest =>
      clear HC8
      try clear c1
      try clear p2
      try clear c6
      try clear c7
      try clear c10
      try clear c10b0
      try clear c10b1
      try clear c11
      try clear c11b0
      try clear c11b1
      try clear c12
      try clear c12b0
      try clear c12b1
      obtain ⟨kq, x0_7, rfl, HA, HJ7, HB⟩ := hcut
      cases kq with
      | zero => exact absurd HA.out (by simp [cofferlaw13_VersionRight.j0])
      | succ kj7 =>
        have H := HA.out
        clear HA
        simp only [cofferlaw13_VersionRight.j0] at H
        have HC13 := Aside0.mk H
        clear H
        go_upto_if 25 with (fail)
        go_cut [1] (fun v1 wc => ∃ (kq : Nat) (x1_12 : ByteArray), v1 = .string x1_12 ∧ Aside0 (cofferlaw13_VersionRight.j1 kq x0_7 x1_12 a2 a3 a4 = some r) ∧ Aside0 (kq ≤ kj7) ∧ Aside0 (Below w.heap.size w wc))
        case first =>
          have H := HC13.out
          clear HC13
          by_cases c14 : (a1.size : Int) > 1024
          · rw [if_pos c14] at H
            have c14b0 : decide (1024 < (a1.size : Int)) = true := decide_eq_true c14
            have c14b1 : decide (1024 < a1.size) = true := decide_eq_true (by omega)
            clear c14
            (first | rw [c14b0] | (simp only [i64_w, i32_w]; rw [c14b0]) | rw [c14b1] | skip)
            by_cases c15 : 0 ≤ 1024
            · rw [if_pos c15] at H
              have c15b0 := eq_true c15
              have c15b1 : decide (0 ≤ 1024) = true := decide_eq_true c15
              clear c15
              by_cases c16 : 1024 ≤ (a1.size : Int)
              · rw [if_pos c16] at H
                have c16b0 := eq_true c16
                have c16b1 : decide (1024 ≤ (a1.size : Int)) = true := decide_eq_true c16
                clear c16
                have H' := Aside0.mk H
                clear H
                go_wp2
                go_meet
                case rel => exact ⟨_, (a1.extract 0 1024), (by first | rfl | (simp; done) | (simp [Go.Proofs.Ytdhkcklgnnilfaa.Z.bne_nil, Go.Proofs.Ytdhkcklgnnilfaa.Z.beq_nil]; done) | (simp [*]; done)), H', ⟨by have := HJ7.out; first | omega | exact Nat.le_refl _⟩, ⟨by repeat (first | (with_reducible first | exact HB.out | apply below_alloc | apply pw_below_drewN | apply below_drew1) | exact HB.out)⟩⟩
              · rw [if_neg c16] at H
                exact absurd H (by simp)
            · rw [if_neg c15] at H
              exact absurd H (by simp)
          · rw [if_neg c14] at H
            have c14b0 : decide (1024 < (a1.size : Int)) = false := decide_eq_false c14
            have c14b1 : decide (1024 < a1.size) = false := decide_eq_false (by omega)
            clear c14
            (first | rw [c14b0] | (simp only [i64_w, i32_w]; rw [c14b0]) | rw [c14b1] | skip)
            have H' := Aside0.mk H
            clear H
            go_wp2
            go_meet
            case rel => exact ⟨_, (a1), (by first | rfl | (simp; done) | (simp [Go.Proofs.Ytdhkcklgnnilfaa.Z.bne_nil, Go.Proofs.Ytdhkcklgnnilfaa.Z.beq_nil]; done) | (simp [*]; done)), H', ⟨by have := HJ7.out; first | omega | exact Nat.le_refl _⟩, ⟨by repeat (first | (with_reducible first | exact HB.out | apply below_alloc | apply pw_below_drewN | apply below_drew1) | exact HB.out)⟩⟩
        case rest =>
          clear HC13
          try clear c1
          try clear p2
          try clear c6
          try clear c7
          try clear c10
          try clear c10b0
          try clear c10b1
          try clear c11
          try clear c11b0
          try clear c11b1
          try clear c12
          try clear c12b0
          try clear c12b1
          try clear c14
          try clear c14b0
          try clear c14b1
          try clear c15
          try clear c15b0
          try clear c15b1
          try clear c16
          try clear c16b0
          try clear c16b1
          try clear p2
          obtain ⟨kq, x1_12, rfl, HA, HJ12, HB⟩ := hcut
          cases kq with
          | zero => exact absurd HA.out (by simp [cofferlaw13_VersionRight.j1])
          | succ kj12 =>
            have H := HA.out
            clear HA
            simp only [cofferlaw13_VersionRight.j1] at H
            by_cases c17 : x0_7.size + 1 ≤ 9223372036854775807
            · rw [if_pos c17] at H
              have c17b0 := eq_true c17
              have c17b1 : decide (x0_7.size + 1 ≤ 9223372036854775807) = true := decide_eq_true c17
              try have c17b2 : (9223372036854775807 < x0_7.size + 1) = False := eq_false (Nat.not_lt.2 c17)
              obtain ⟨y406, hy406⟩ : ∃ y_ : List (S31), y_ = (([(⟨(⟨#[97]⟩ : ByteArray), (⟨#[49]⟩ : ByteArray)⟩ : S31), (⟨(⟨#[98]⟩ : ByteArray), (⟨#[]⟩ : ByteArray)⟩ : S31)] : List (S31))) := ⟨_, rfl⟩
              replace H : (if a3 = true then (cofferlaw13_VersionRight.j2 kj12 a4 (x0_7 ++ (⟨#[107]⟩ : ByteArray)) (wrap64 (1 + (Go.bits .and .i64 a2 1099511627775))) true (⟨#[]⟩ : ByteArray) ([] : List (S31))) else (cofferlaw13_VersionRight.j2 kj12 a4 (x0_7 ++ (⟨#[107]⟩ : ByteArray)) (wrap64 (1 + (Go.bits .and .i64 a2 1099511627775))) false x1_12 y406)) = some r := by first | (rw [hy406]; with_reducible exact H) | (have H2_ := (Option.bind_some _ _).symm.trans H; rw [hy406]; with_reducible exact H2_) | (have H2_ := (Option.bind_some _ _).symm.trans H; with_reducible exact H2_) | with_reducible exact H | (rw [hy406]; exact H) | exact H
              have Ny406 := Aside0.mk hy406
              clear hy406
              have HC18 := Aside0.mk H
              clear H
              go_upto_if 38 with (first | ((with_reducible refine gate_dst (N := 36) rfl ?_); refine Kd.R_lit k31 _ 31 ?hg (N := 36) ?hd (xs := ([(⟨(⟨#[97]⟩ : ByteArray), (⟨#[49]⟩ : ByteArray)⟩ : S31), (⟨(⟨#[98]⟩ : ByteArray), (⟨#[]⟩ : ByteArray)⟩ : S31)] : List (S31))) (inner := [.string (⟨#[97]⟩ : ByteArray), .string (⟨#[49]⟩ : ByteArray), .string (⟨#[98]⟩ : ByteArray), .string (⟨#[]⟩ : ByteArray)]) (ok := fun _ => True) (okp := fun _ => True) ?hr ?hp (fun _ hk => hk) trivial (Below.refl _ _) (Nat.le_refl _) (by simp) ?_; (case hd => rfl); (case hg => rfl); (case hr => first | (go_simp; done) | (go_simp; rfl)); (case hp => exact (Reps.c2 (show Kd.M k31 _ _ _ (⟨(⟨#[97]⟩ : ByteArray), (⟨#[49]⟩ : ByteArray)⟩ : S31) [.string (⟨#[97]⟩ : ByteArray), .string (⟨#[49]⟩ : ByteArray)] from (k31_mkM _ _ _ (⟨(⟨#[97]⟩ : ByteArray), (⟨#[49]⟩ : ByteArray)⟩ : S31) )) (Reps.c2 (show Kd.M k31 _ _ _ (⟨(⟨#[98]⟩ : ByteArray), (⟨#[]⟩ : ByteArray)⟩ : S31) [.string (⟨#[98]⟩ : ByteArray), .string (⟨#[]⟩ : ByteArray)] from (k31_mkM _ _ _ (⟨(⟨#[98]⟩ : ByteArray), (⟨#[]⟩ : ByteArray)⟩ : S31) )) (Reps.none _ _)))); intro v407 w19 ho20 hb hg_ hnew_; clear hg_ hnew_; (first | rw [← Ny406.out] at ho20 | (simp only [Int.reduceToNat] at ho20; rw [← Ny406.out] at ho20)); have n0_ := Aside0.mk (Kd.R_lower ho20 (below_size (by repeat (first | (with_reducible first | exact HB.out | apply below_alloc | apply pw_below_drewN | apply below_drew1) | exact HB.out)))); have n1_ := Aside0.mk (below_step (by repeat (first | (with_reducible first | exact HB.out | apply below_alloc | apply pw_below_drewN | apply below_drew1) | exact HB.out)) hb); clear HB; have HO408 := n0_; have HB := n1_; clear n0_ n1_; clear hb ho20; obtain ⟨Ao21, co21, eo21⟩ := Kd.R_slice HO408.out; subst eo21) | ((with_reducible refine gate_dst (N := 11) rfl ?_); refine box_event ?hg (N := 11) ?hd (cs := #[.string (⟨#[]⟩ : ByteArray), .int .i64 0, .bool false, .string (⟨#[]⟩ : ByteArray), .slice none 0 0]) (t := 24) ?hr ?_; (case hd => rfl); (case hg => rfl); (case hr => first | (go_simp; done) | (go_simp; rfl)); intro gb409 hg w22 hbox hb; have n0_ := Aside0.mk (Kd.R_below (by (with_reducible repeat (first | apply Kd.R_alloc | apply Kd.R_drewN | apply Kd.R_drew)); exact HO408.out) hb); have n1_ := Aside0.mk (below_step (by repeat (first | (with_reducible first | exact HB.out | apply below_alloc | apply pw_below_drewN | apply below_drew1) | exact HB.out)) hb); have n2_ := Aside0.mk (hbox); have n3_ := Aside0.mk ((by rw [hg]; exact (below_size (by repeat (first | (with_reducible first | exact HB.out | apply below_alloc | apply pw_below_drewN | apply below_drew1) | exact HB.out))) : w.heap.size ≤ gb409)); have n4_ := Aside0.mk ((by rw [hg]; exact (below_size (by repeat (first | (with_reducible first | exact HB.out | apply below_alloc | apply pw_below_drewN | apply below_drew1) | exact HB.out))) : w.heap.size ≤ gb409)); clear HO408; clear HB; have HO408 := n0_; have HB := n1_; have BK409 := n2_; have GW409 := n3_; have GE409 := n4_; clear n0_ n1_ n2_ n3_ n4_; clear hb hbox hg; have hcz23_0 : w22.cell? ⟨gb409, 0, none⟩ = some (.string (⟨#[]⟩ : ByteArray)) := (blk_cell BK409.out 0).trans rfl; have hcz23_1 : w22.cell? ⟨gb409, 1, none⟩ = some (.int .i64 0) := (blk_cell BK409.out 1).trans rfl; have hcz23_2 : w22.cell? ⟨gb409, 2, none⟩ = some (.bool false) := (blk_cell BK409.out 2).trans rfl; have hcz23_3 : w22.cell? ⟨gb409, 3, none⟩ = some (.string (⟨#[]⟩ : ByteArray)) := (blk_cell BK409.out 3).trans rfl; have hcz23_4 : w22.cell? ⟨gb409, 4, none⟩ = some (.slice none 0 0) := (blk_cell BK409.out 4).trans rfl; have hfz23_0 := blk_frozen BK409.out 0; have hfz23_1 := blk_frozen BK409.out 1; have hfz23_2 := blk_frozen BK409.out 2; have hfz23_3 := blk_frozen BK409.out 3; have hfz23_4 := blk_frozen BK409.out 4))
              (try simp only [Act.put, List.setIfInBounds_toArray, List.set_cons_zero, List.set_cons_succ])
              go_cut [] (fun wc => ∃ (kq : Nat) (x410000_17 : ByteArray) (x410001_17 : Int) (x410002_17 : Bool) (x410003_17 : ByteArray) (x410004_17 : List (S31)) (u410004 : Value), Aside0 (cofferlaw13_VersionRight.j2 kq a4 x410000_17 x410001_17 x410002_17 x410003_17 x410004_17 = some r) ∧ Aside0 (kq ≤ kj12) ∧ Aside0 (Kd.R k31 31 wc w.heap.size (fun _ => True) u410004 x410004_17) ∧ Aside0 (wc.heap[gb409]? = some (.cells #[.string x410000_17, .int .i64 x410001_17, .bool x410002_17, .string x410003_17, u410004] 24 (0, 0))) ∧ Aside0 (Below w.heap.size w wc))
              case first =>
                have H := HC18.out
                clear HC18
                by_cases c24 : a3 = true
                · subst c24
                  have H1 : (cofferlaw13_VersionRight.j2 kj12 a4 (x0_7 ++ (⟨#[107]⟩ : ByteArray)) (wrap64 (1 + (Go.bits .and .i64 a2 1099511627775))) true (⟨#[]⟩ : ByteArray) ([] : List (S31))) = some r := by rw [if_pos rfl] at H; exact H
                  clear H
                  have H := H1
                  clear H1
                  have H' := Aside0.mk H
                  clear H
                  have hcz25_0 : w22.cell? ⟨gb409, 0, none⟩ = some (.string (⟨#[]⟩ : ByteArray)) := (blk_cell BK409.out 0).trans rfl
                  have hcz25_1 : w22.cell? ⟨gb409, 1, none⟩ = some (.int .i64 0) := (blk_cell BK409.out 1).trans rfl
                  have hcz25_2 : w22.cell? ⟨gb409, 2, none⟩ = some (.bool false) := (blk_cell BK409.out 2).trans rfl
                  have hcz25_3 : w22.cell? ⟨gb409, 3, none⟩ = some (.string (⟨#[]⟩ : ByteArray)) := (blk_cell BK409.out 3).trans rfl
                  have hcz25_4 : w22.cell? ⟨gb409, 4, none⟩ = some (.slice none 0 0) := (blk_cell BK409.out 4).trans rfl
                  have hfz25_0 := blk_frozen BK409.out 0
                  have hfz25_1 := blk_frozen BK409.out 1
                  have hfz25_2 := blk_frozen BK409.out 2
                  have hfz25_3 := blk_frozen BK409.out 3
                  have hfz25_4 := blk_frozen BK409.out 4
                  go_wp2
                  go_meet
                  case rel => exact ⟨_, (x0_7 ++ (⟨#[107]⟩ : ByteArray)), (wrap64 (1 + (Go.bits .and .i64 a2 1099511627775))), (true), ((⟨#[]⟩ : ByteArray)), (([] : List (S31))), (.slice none 0 0), H', ⟨by have := HJ7.out; have := HJ12.out; first | omega | exact Nat.le_refl _⟩, ⟨by first | exact Kd.R_nil _ _ _ _ _ | exact Kd.N_nil _ _ _ _ _ | exact Kd.V_nil _ _ _ _ _ | exact Kd.Q_nil _ _ _ _ _ | exact Kd.S_nil _ _ _ _ _⟩, ⟨by (with_reducible repeat (first | refine blk_drewN ?_ _ | refine blk_drew ?_ | refine blk_alloc ?_ _)); refine blk_put (cs := #[.string (x0_7 ++ (⟨#[107]⟩ : ByteArray)), .int .i64 (wrap64 (1 + (Go.bits .and .i64 a2 1099511627775))), .bool true, .string (⟨#[]⟩ : ByteArray), .slice Ao21 y406.length co21]) ?_ 4 _ rfl; (with_reducible repeat (first | refine blk_drewN ?_ _ | refine blk_drew ?_ | refine blk_alloc ?_ _)); refine blk_put (cs := #[.string (x0_7 ++ (⟨#[107]⟩ : ByteArray)), .int .i64 (wrap64 (1 + (Go.bits .and .i64 a2 1099511627775))), .bool true, .string x1_12, .slice Ao21 y406.length co21]) ?_ 3 _ rfl; (with_reducible repeat (first | refine blk_drewN ?_ _ | refine blk_drew ?_ | refine blk_alloc ?_ _)); refine blk_put (cs := #[.string (x0_7 ++ (⟨#[107]⟩ : ByteArray)), .int .i64 (wrap64 (1 + (Go.bits .and .i64 a2 1099511627775))), .bool false, .string x1_12, .slice Ao21 y406.length co21]) ?_ 2 _ rfl; (with_reducible repeat (first | refine blk_drewN ?_ _ | refine blk_drew ?_ | refine blk_alloc ?_ _)); refine blk_put (cs := #[.string (x0_7 ++ (⟨#[107]⟩ : ByteArray)), .int .i64 (wrap64 (1 + (Go.bits .and .i64 a2 1099511627775))), .bool false, .string x1_12, .slice Ao21 y406.length co21]) ?_ 1 _ rfl; (with_reducible repeat (first | refine blk_drewN ?_ _ | refine blk_drew ?_ | refine blk_alloc ?_ _)); refine blk_put (cs := #[.string (x0_7 ++ (⟨#[107]⟩ : ByteArray)), .int .i64 (wrap64 (1 + (Go.bits .and .i64 a2 1099511627775))), .bool false, .string x1_12, .slice Ao21 y406.length co21]) ?_ 0 _ rfl; (with_reducible repeat (first | refine blk_drewN ?_ _ | refine blk_drew ?_ | refine blk_alloc ?_ _)); refine blk_put (cs := #[.string (x0_7 ++ (⟨#[107]⟩ : ByteArray)), .int .i64 (wrap64 (1 + (Go.bits .and .i64 a2 1099511627775))), .bool false, .string x1_12, .slice none 0 0]) ?_ 4 _ rfl; (with_reducible repeat (first | refine blk_drewN ?_ _ | refine blk_drew ?_ | refine blk_alloc ?_ _)); refine blk_put (cs := #[.string (x0_7 ++ (⟨#[107]⟩ : ByteArray)), .int .i64 (wrap64 (1 + (Go.bits .and .i64 a2 1099511627775))), .bool false, .string (⟨#[]⟩ : ByteArray), .slice none 0 0]) ?_ 3 _ rfl; (with_reducible repeat (first | refine blk_drewN ?_ _ | refine blk_drew ?_ | refine blk_alloc ?_ _)); refine blk_put (cs := #[.string (x0_7 ++ (⟨#[107]⟩ : ByteArray)), .int .i64 (wrap64 (1 + (Go.bits .and .i64 a2 1099511627775))), .bool false, .string (⟨#[]⟩ : ByteArray), .slice none 0 0]) ?_ 2 _ rfl; (with_reducible repeat (first | refine blk_drewN ?_ _ | refine blk_drew ?_ | refine blk_alloc ?_ _)); refine blk_put (cs := #[.string (x0_7 ++ (⟨#[107]⟩ : ByteArray)), .int .i64 0, .bool false, .string (⟨#[]⟩ : ByteArray), .slice none 0 0]) ?_ 1 _ rfl; (with_reducible repeat (first | refine blk_drewN ?_ _ | refine blk_drew ?_ | refine blk_alloc ?_ _)); refine blk_put (cs := #[.string (⟨#[]⟩ : ByteArray), .int .i64 0, .bool false, .string (⟨#[]⟩ : ByteArray), .slice none 0 0]) ?_ 0 _ rfl; (with_reducible repeat (first | refine blk_drewN ?_ _ | refine blk_drew ?_ | refine blk_alloc ?_ _)); exact BK409.out⟩, ⟨by repeat (first | (with_reducible first | exact HB.out | apply below_alloc | apply pw_below_drewN | apply below_drew1 | refine below_set ?_ GE409.out) | exact HB.out)⟩⟩
                · replace c24 := Bool.eq_false_iff.mpr c24
                  subst c24
                  have H1 : (cofferlaw13_VersionRight.j2 kj12 a4 (x0_7 ++ (⟨#[107]⟩ : ByteArray)) (wrap64 (1 + (Go.bits .and .i64 a2 1099511627775))) false x1_12 y406) = some r := by rw [if_neg (show ¬ (false = true) by decide)] at H; exact H
                  clear H
                  have H := H1
                  clear H1
                  have H' := Aside0.mk H
                  clear H
                  go_wp2
                  go_meet
                  case rel => exact ⟨_, (x0_7 ++ (⟨#[107]⟩ : ByteArray)), (wrap64 (1 + (Go.bits .and .i64 a2 1099511627775))), (false), (x1_12), (y406), (.slice Ao21 y406.length co21), H', ⟨by have := HJ7.out; have := HJ12.out; first | omega | exact Nat.le_refl _⟩, ⟨by (with_reducible repeat (first | apply Kd.R_alloc | apply Kd.R_drewN | apply Kd.R_drew)); exact Kd.R_mono (Kd.R_far (p := ⟨gb409, 4, none⟩) (Kd.R_far (p := ⟨gb409, 3, none⟩) (Kd.R_far (p := ⟨gb409, 2, none⟩) (Kd.R_far (p := ⟨gb409, 1, none⟩) (Kd.R_far (p := ⟨gb409, 0, none⟩) (Kd.R_types HO408.out BK409.out (by decide)) (fun _ hk => hk.2) (.string (x0_7 ++ (⟨#[107]⟩ : ByteArray)))) (fun _ hk => hk.2) (.int .i64 (wrap64 (1 + (Go.bits .and .i64 a2 1099511627775))))) (fun _ hk => hk.2) (.bool false)) (fun _ hk => hk.2) (.string x1_12)) (fun _ hk => hk.2) (.slice Ao21 y406.length co21)) (fun _ hk => trivial)⟩, ⟨by (with_reducible repeat (first | refine blk_drewN ?_ _ | refine blk_drew ?_ | refine blk_alloc ?_ _)); refine blk_put (cs := #[.string (x0_7 ++ (⟨#[107]⟩ : ByteArray)), .int .i64 (wrap64 (1 + (Go.bits .and .i64 a2 1099511627775))), .bool false, .string x1_12, .slice none 0 0]) ?_ 4 _ rfl; (with_reducible repeat (first | refine blk_drewN ?_ _ | refine blk_drew ?_ | refine blk_alloc ?_ _)); refine blk_put (cs := #[.string (x0_7 ++ (⟨#[107]⟩ : ByteArray)), .int .i64 (wrap64 (1 + (Go.bits .and .i64 a2 1099511627775))), .bool false, .string (⟨#[]⟩ : ByteArray), .slice none 0 0]) ?_ 3 _ rfl; (with_reducible repeat (first | refine blk_drewN ?_ _ | refine blk_drew ?_ | refine blk_alloc ?_ _)); refine blk_put (cs := #[.string (x0_7 ++ (⟨#[107]⟩ : ByteArray)), .int .i64 (wrap64 (1 + (Go.bits .and .i64 a2 1099511627775))), .bool false, .string (⟨#[]⟩ : ByteArray), .slice none 0 0]) ?_ 2 _ rfl; (with_reducible repeat (first | refine blk_drewN ?_ _ | refine blk_drew ?_ | refine blk_alloc ?_ _)); refine blk_put (cs := #[.string (x0_7 ++ (⟨#[107]⟩ : ByteArray)), .int .i64 0, .bool false, .string (⟨#[]⟩ : ByteArray), .slice none 0 0]) ?_ 1 _ rfl; (with_reducible repeat (first | refine blk_drewN ?_ _ | refine blk_drew ?_ | refine blk_alloc ?_ _)); refine blk_put (cs := #[.string (⟨#[]⟩ : ByteArray), .int .i64 0, .bool false, .string (⟨#[]⟩ : ByteArray), .slice none 0 0]) ?_ 0 _ rfl; (with_reducible repeat (first | refine blk_drewN ?_ _ | refine blk_drew ?_ | refine blk_alloc ?_ _)); exact BK409.out⟩, ⟨by repeat (first | (with_reducible first | exact HB.out | apply below_alloc | apply pw_below_drewN | apply below_drew1 | refine below_set ?_ GE409.out) | exact HB.out)⟩⟩
              case rest =>
                clear HC18
                try clear c1
                try clear c2
                try clear p2
                try clear c6
                try clear p6
                try clear c7
                try clear c10
                try clear c10b0
                try clear c10b1
                try clear c11
                try clear c11b0
                try clear c11b1
                try clear c12
                try clear c12b0
                try clear c12b1
                try clear c14
                try clear c14b0
                try clear c14b1
                try clear c15
                try clear c15b0
                try clear c15b1
                try clear c16
                try clear c16b0
                try clear c16b1
                try clear c17
                try clear c17b0
                try clear c17b1
                try clear c17b2
                try clear c24
                try clear hcz23_0
                try clear hcz23_1
                try clear hcz23_2
                try clear hcz23_3
                try clear hcz23_4
                try clear hcz25_0
                try clear hcz25_1
                try clear hcz25_2
                try clear hcz25_3
                try clear hcz25_4
                try clear hfz23_0
                try clear hfz23_1
                try clear hfz23_2
                try clear hfz23_3
                try clear hfz23_4
                try clear hfz25_0
                try clear hfz25_1
                try clear hfz25_2
                try clear hfz25_3
                try clear hfz25_4
                try clear p2
                obtain ⟨kq, x410000_17, x410001_17, x410002_17, x410003_17, x410004_17, u410004, HA, HJ17, HO_410004, BK409, HB⟩ := hcut
                cases kq with
                | zero => exact absurd HA.out (by simp [cofferlaw13_VersionRight.j2])
                | succ kj17 =>
                  have H := HA.out
                  clear HA
                  simp only [cofferlaw13_VersionRight.j2] at H
                  replace H := Option.bind_eq_some_iff.mp H
                  obtain ⟨⟨t410, t411⟩, A260, H⟩ := H
                  replace H : (if t411 = 0 then (if (Go.bits .and .i64 a4 7) = 0 then ((version_Write.f kj17 (⟨#[]⟩ : ByteArray) 0 x410002_17 x410003_17 x410004_17).bind fun bt412 => (if bt412.1.toList = ([] : List UInt8) then (some (bt412.2 == 1)) else (none))) else (if (Go.bits .and .i64 a4 7) = 1 then (if 1025 ≤ 281474976710656 then ((version_Write.f kj17 x410000_17 1099511627777 x410002_17 (strOfNums (List.replicate 1025 0)) x410004_17).bind fun bt417 => (if bt417.1.toList = ([] : List UInt8) then (some (bt417.2 == 1)) else (none))) else (none)) else (if (Go.bits .and .i64 a4 7) = 2 then (if 1025 ≤ 281474976710656 then ((version_Write.f kj17 (⟨#[]⟩ : ByteArray) x410001_17 x410002_17 (strOfNums (List.replicate 1025 0)) x410004_17).bind fun bt422 => (if bt422.1.toList = ([] : List UInt8) then (some (bt422.2 == 61)) else (none))) else (none)) else (if (Go.bits .and .i64 a4 7) = 3 then (if 65 ≤ 281474976710656 then ((version_Write.f kj17 (strOfNums (List.replicate 65 0)) x410001_17 x410002_17 x410003_17 x410004_17).bind fun bt427 => (if bt427.1.toList = ([] : List UInt8) then (some (bt427.2 == 61)) else (none))) else (none)) else (if (Go.bits .and .i64 a4 7) = 4 then (if 1025 ≤ 281474976710656 then ((some (([(⟨(⟨#[97]⟩ : ByteArray), (⟨#[]⟩ : ByteArray)⟩ : S31), (⟨(⟨#[97]⟩ : ByteArray), (⟨#[]⟩ : ByteArray)⟩ : S31)] : List (S31)) : List (S31))).bind fun y432 => (if x410004_17.length + y432.length < 4398046511104 then ((version_Write.f kj17 x410000_17 x410001_17 x410002_17 (strOfNums (List.replicate 1025 0)) (x410004_17 ++ y432)).bind fun bt438 => (if bt438.1.toList = ([] : List UInt8) then (some (bt438.2 == 63)) else (none))) else (none))) else (none)) else (if (Go.bits .and .i64 a4 7) = 5 then ((some (([(⟨(⟨#[97]⟩ : ByteArray), (⟨#[]⟩ : ByteArray)⟩ : S31), (⟨(⟨#[97]⟩ : ByteArray), (⟨#[]⟩ : ByteArray)⟩ : S31)] : List (S31)) : List (S31))).bind fun y440 => (if x410004_17.length + y440.length < 4398046511104 then ((version_Write.f kj17 x410000_17 x410001_17 x410002_17 x410003_17 (x410004_17 ++ y440)).bind fun bt446 => (if bt446.1.toList = ([] : List UInt8) then (some (bt446.2 == 62)) else (none))) else (none))) else (if (Go.bits .and .i64 a4 7) = 6 then ((version_Write.f kj17 x410000_17 x410001_17 true (⟨#[120]⟩ : ByteArray) (([(⟨(⟨#[97]⟩ : ByteArray), (⟨#[]⟩ : ByteArray)⟩ : S31)] : List (S31)))).bind fun bt451 => (if bt451.1.toList = ([] : List UInt8) then (some (bt451.2 == 63)) else (none))) else ((version_Write.f kj17 x410000_17 x410001_17 true (⟨#[]⟩ : ByteArray) (([(⟨(⟨#[97]⟩ : ByteArray), (⟨#[]⟩ : ByteArray)⟩ : S31)] : List (S31)))).bind fun bt456 => (if bt456.1.toList = ([] : List UInt8) then (some (bt456.2 == 62)) else (none)))))))))) else (none)) = some r := H
                  have A26 := Aside0.mk A260
                  clear A260
                  by_cases c27 : t411 = 0
                  · rw [if_pos c27] at H
                    have c27b0 : (t411 == 0) = true := beq_iff_eq.mpr c27
                    have c27b1 : (t411 != 0) = false := bne_eq_false_iff_eq.mpr c27
                    clear c27
                    by_cases c28 : (Go.bits .and .i64 a4 7) = 0
                    · rw [if_pos c28] at H
                      have c28b0 : ((Go.bits .and .i64 a4 7) == 0) = true := beq_iff_eq.mpr c28
                      have c28b1 : ((Go.bits .and .i64 a4 7) != 0) = false := bne_eq_false_iff_eq.mpr c28
                      clear c28
                      replace H := Option.bind_eq_some_iff.mp H
                      obtain ⟨⟨t412, t413⟩, A290, H⟩ := H
                      replace H : (if t412.toList = ([] : List UInt8) then (some (t413 == 1)) else (none)) = some r := H
                      have A29 := Aside0.mk A290
                      clear A290
                      by_cases c30 : t412.toList = ([] : List UInt8)
                      · rw [if_pos c30] at H
                        have c30b0 : (t412.toList == ([] : List UInt8)) = true := beq_iff_eq.mpr c30
                        have c30b1 : (t412.toList != ([] : List UInt8)) = false := bne_eq_false_iff_eq.mpr c30
                        clear c30
                        obtain rfl := Option.some.inj H
                        have hcz31_0 : wc.cell? ⟨gb409, 0, none⟩ = some (.string x410000_17) := (blk_cell BK409.out 0).trans rfl
                        have hcz31_1 : wc.cell? ⟨gb409, 1, none⟩ = some (.int .i64 x410001_17) := (blk_cell BK409.out 1).trans rfl
                        have hcz31_2 : wc.cell? ⟨gb409, 2, none⟩ = some (.bool x410002_17) := (blk_cell BK409.out 2).trans rfl
                        have hcz31_3 : wc.cell? ⟨gb409, 3, none⟩ = some (.string x410003_17) := (blk_cell BK409.out 3).trans rfl
                        have hcz31_4 : wc.cell? ⟨gb409, 4, none⟩ = some (u410004) := (blk_cell BK409.out 4).trans rfl
                        have hfz31_0 := blk_frozen BK409.out 0
                        have hfz31_1 := blk_frozen BK409.out 1
                        have hfz31_2 := blk_frozen BK409.out 2
                        have hfz31_3 := blk_frozen BK409.out 3
                        have hfz31_4 := blk_frozen BK409.out 4
                        obtain ⟨Ao32, co32, eo32⟩ := Kd.R_slice HO_410004.out
                        subst eo32
                        go_wp2_with (first | ((with_reducible refine gate_callee (f := 9) rfl ?_); refine goesL_ (some 46) rfl rfl Try.func9 (by kernel_rfl) rfl #[.agg #[.string x410000_17, .int .i64 x410001_17, .bool x410002_17, .string x410003_17, .slice Ao32 x410004_17.length co32]] rfl (by (try simp only [List.map_toArray, List.map_cons, List.map_nil]); first | done | rfl | (simp only [List.length_drop, List.length_take]; rfl)) ?_; (with_reducible refine (version_Write.calls kj17 x410000_17 x410001_17 x410002_17 x410003_17 _ _ x410004_17 t410 t411 _ ?side1 ?side2 A26.out).mono ?_); (case side1 => repeat (first | exact (Kd.R_reads' HO_410004.out).2.2 | (with_reducible refine Kd.C_alloc ?_ _) | (with_reducible refine Kd.C_drewN ?_ _) | (with_reducible refine Kd.C_drew ?_))); (case side2 => exact (Kd.R_reads' HO_410004.out).2.1); rintro e w33 ⟨rfl, hb⟩; refine ⟨_, rfl, ?_⟩; have n0_ := Aside0.mk (Kd.R_below (by (with_reducible repeat (first | apply Kd.R_alloc | apply Kd.R_drewN | apply Kd.R_drew)); exact HO_410004.out) hb); have n1_ := Aside0.mk (blk_below (g := gb409) (o := .cells #[.string x410000_17, .int .i64 x410001_17, .bool x410002_17, .string x410003_17, .slice Ao32 x410004_17.length co32] 24 (0, 0)) (by (with_reducible repeat (first | refine blk_drewN ?_ _ | refine blk_drew ?_ | refine blk_alloc ?_ _)); exact BK409.out) hb); have n2_ := Aside0.mk (below_step (by repeat (first | (with_reducible first | exact HB.out | apply below_alloc | apply pw_below_drewN | apply below_drew1 | refine below_set ?_ GE409.out) | exact HB.out)) hb); clear HO_410004; clear BK409; clear HB; have HO_410004 := n0_; have BK409 := n1_; have HB := n2_; clear n0_ n1_ n2_; (try clear hb); (try clear hb2); (try clear hk); (try clear hi); have hcz34_0 : w33.cell? ⟨gb409, 0, none⟩ = some (.string x410000_17) := (blk_cell BK409.out 0).trans rfl; have hcz34_1 : w33.cell? ⟨gb409, 1, none⟩ = some (.int .i64 x410001_17) := (blk_cell BK409.out 1).trans rfl; have hcz34_2 : w33.cell? ⟨gb409, 2, none⟩ = some (.bool x410002_17) := (blk_cell BK409.out 2).trans rfl; have hcz34_3 : w33.cell? ⟨gb409, 3, none⟩ = some (.string x410003_17) := (blk_cell BK409.out 3).trans rfl; have hcz34_4 : w33.cell? ⟨gb409, 4, none⟩ = some (.slice Ao32 x410004_17.length co32) := (blk_cell BK409.out 4).trans rfl; have hfz34_0 := blk_frozen BK409.out 0; have hfz34_1 := blk_frozen BK409.out 1; have hfz34_2 := blk_frozen BK409.out 2; have hfz34_3 := blk_frozen BK409.out 3; have hfz34_4 := blk_frozen BK409.out 4) | ((with_reducible refine gate_callee (f := 9) rfl ?_); refine goesL_ (some 109) rfl rfl Try.func9 (by kernel_rfl) rfl #[.agg #[.string (⟨#[]⟩ : ByteArray), .int .i64 0, .bool x410002_17, .string x410003_17, .slice Ao32 x410004_17.length co32]] rfl (by (try simp only [List.map_toArray, List.map_cons, List.map_nil]); first | done | rfl | (simp only [List.length_drop, List.length_take]; rfl)) ?_; (with_reducible refine (version_Write.calls kj17 (⟨#[]⟩ : ByteArray) 0 x410002_17 x410003_17 _ _ x410004_17 t412 t413 _ ?side1 ?side2 A29.out).mono ?_); (case side1 => refine (Kd.R_reads' (e := 31) (base := w.heap.size) (ok := fun k_ => True) (n := x410004_17.length) (c := co32) ?_).2.2; exact (by (with_reducible repeat (first | apply Kd.R_alloc | apply Kd.R_drewN | apply Kd.R_drew)); exact (Kd.R_mono (Kd.R_far (p := ⟨gb409, 0, none⟩) (Kd.R_far (p := ⟨gb409, 1, none⟩) (Kd.R_types HO_410004.out BK409.out (by decide)) (fun _ hk => hk.2) (.int .i64 0)) (fun _ hk => hk.2) (.string (⟨#[]⟩ : ByteArray))) (fun _ h_ => h_.1)))); (case side2 => exact (Kd.R_reads' HO_410004.out).2.1); rintro e w35 ⟨rfl, hb⟩; refine ⟨_, rfl, ?_⟩; have n0_ := Aside0.mk (Kd.R_below (by (with_reducible repeat (first | apply Kd.R_alloc | apply Kd.R_drewN | apply Kd.R_drew)); exact (Kd.R_mono (Kd.R_far (p := ⟨gb409, 0, none⟩) (Kd.R_far (p := ⟨gb409, 1, none⟩) (Kd.R_types HO_410004.out BK409.out (by decide)) (fun _ hk => hk.2) (.int .i64 0)) (fun _ hk => hk.2) (.string (⟨#[]⟩ : ByteArray))) (fun _ h_ => h_.1))) hb); have n1_ := Aside0.mk (blk_below (g := gb409) (o := .cells #[.string (⟨#[]⟩ : ByteArray), .int .i64 0, .bool x410002_17, .string x410003_17, .slice Ao32 x410004_17.length co32] 24 (0, 0)) (by (with_reducible repeat (first | refine blk_drewN ?_ _ | refine blk_drew ?_ | refine blk_alloc ?_ _)); refine blk_put (cs := #[.string x410000_17, .int .i64 0, .bool x410002_17, .string x410003_17, .slice Ao32 x410004_17.length co32]) ?_ 0 _ rfl; (with_reducible repeat (first | refine blk_drewN ?_ _ | refine blk_drew ?_ | refine blk_alloc ?_ _)); refine blk_put (cs := #[.string x410000_17, .int .i64 x410001_17, .bool x410002_17, .string x410003_17, .slice Ao32 x410004_17.length co32]) ?_ 1 _ rfl; (with_reducible repeat (first | refine blk_drewN ?_ _ | refine blk_drew ?_ | refine blk_alloc ?_ _)); exact BK409.out) hb); have n2_ := Aside0.mk (below_step (by repeat (first | (with_reducible first | exact HB.out | apply below_alloc | apply pw_below_drewN | apply below_drew1 | refine below_set ?_ GE409.out) | exact HB.out)) hb); clear HO_410004; clear BK409; clear HB; have HO_410004 := n0_; have BK409 := n1_; have HB := n2_; clear n0_ n1_ n2_; (try clear hb); (try clear hb2); (try clear hk); (try clear hi)))
                        go_ret
                        exact ⟨by first | rfl | (simp [errW_none, errW_some] <;> rfl) | (simp [*, errW_none, errW_some] <;> rfl), by repeat (first | (with_reducible first | exact HB.out | apply below_alloc | apply pw_below_drewN | apply below_drew1 | refine below_set ?_ GE409.out) | exact HB.out)⟩
                      · rw [if_neg c30] at H
                        exact absurd H (by simp)
                    · rw [if_neg c28] at H
                      have c28b0 : ((Go.bits .and .i64 a4 7) == 0) = false := beq_eq_false_iff_ne.mpr c28
                      have c28b1 : ((Go.bits .and .i64 a4 7) != 0) = true := bne_iff_ne.mpr c28
                      by_cases c36 : (Go.bits .and .i64 a4 7) = 1
                      · rw [if_pos c36] at H
                        have c36b0 : ((Go.bits .and .i64 a4 7) == 1) = true := beq_iff_eq.mpr c36
                        have c36b1 : ((Go.bits .and .i64 a4 7) != 1) = false := bne_eq_false_iff_eq.mpr c36
                        clear c36
                        by_cases c37 : 1025 ≤ 281474976710656
                        · rw [if_pos c37] at H
                          have c37b0 := eq_true c37
                          have c37b1 : decide (1025 ≤ 281474976710656) = true := decide_eq_true c37
                          clear c37
                          obtain ⟨y414, hy414⟩ : ∃ y_ : List Int, y_ = (List.replicate 1025 0) := ⟨_, rfl⟩
                          replace H : ((version_Write.f kj17 x410000_17 1099511627777 x410002_17 (strOfNums y414) x410004_17).bind fun bt417 => (if bt417.1.toList = ([] : List UInt8) then (some (bt417.2 == 1)) else (none))) = some r := by first | (rw [hy414]; with_reducible exact H) | (have H2_ := (Option.bind_some _ _).symm.trans H; rw [hy414]; with_reducible exact H2_) | (have H2_ := (Option.bind_some _ _).symm.trans H; with_reducible exact H2_) | with_reducible exact H | (rw [hy414]; exact H) | exact H
                          have Ny414 := Aside0.mk hy414
                          clear hy414
                          replace H := Option.bind_eq_some_iff.mp H
                          obtain ⟨⟨t417, t418⟩, A380, H⟩ := H
                          replace H : (if t417.toList = ([] : List UInt8) then (some (t418 == 1)) else (none)) = some r := H
                          have A38 := Aside0.mk A380
                          clear A380
                          by_cases c39 : t417.toList = ([] : List UInt8)
                          · rw [if_pos c39] at H
                            have c39b0 : (t417.toList == ([] : List UInt8)) = true := beq_iff_eq.mpr c39
                            have c39b1 : (t417.toList != ([] : List UInt8)) = false := bne_eq_false_iff_eq.mpr c39
                            clear c39
                            obtain rfl := Option.some.inj H
                            have hcz40_0 : wc.cell? ⟨gb409, 0, none⟩ = some (.string x410000_17) := (blk_cell BK409.out 0).trans rfl
                            have hcz40_1 : wc.cell? ⟨gb409, 1, none⟩ = some (.int .i64 x410001_17) := (blk_cell BK409.out 1).trans rfl
                            have hcz40_2 : wc.cell? ⟨gb409, 2, none⟩ = some (.bool x410002_17) := (blk_cell BK409.out 2).trans rfl
                            have hcz40_3 : wc.cell? ⟨gb409, 3, none⟩ = some (.string x410003_17) := (blk_cell BK409.out 3).trans rfl
                            have hcz40_4 : wc.cell? ⟨gb409, 4, none⟩ = some (u410004) := (blk_cell BK409.out 4).trans rfl
                            have hfz40_0 := blk_frozen BK409.out 0
                            have hfz40_1 := blk_frozen BK409.out 1
                            have hfz40_2 := blk_frozen BK409.out 2
                            have hfz40_3 := blk_frozen BK409.out 3
                            have hfz40_4 := blk_frozen BK409.out 4
                            obtain ⟨Ao41, co41, eo41⟩ := Kd.R_slice HO_410004.out
                            subst eo41
                            go_wp2_with (first | ((with_reducible refine gate_callee (f := 9) rfl ?_); refine goesL_ (some 46) rfl rfl Try.func9 (by kernel_rfl) rfl #[.agg #[.string x410000_17, .int .i64 x410001_17, .bool x410002_17, .string x410003_17, .slice Ao41 x410004_17.length co41]] rfl (by (try simp only [List.map_toArray, List.map_cons, List.map_nil]); first | done | rfl | (simp only [List.length_drop, List.length_take]; rfl)) ?_; (with_reducible refine (version_Write.calls kj17 x410000_17 x410001_17 x410002_17 x410003_17 _ _ x410004_17 t410 t411 _ ?side1 ?side2 A26.out).mono ?_); (case side1 => repeat (first | exact (Kd.R_reads' HO_410004.out).2.2 | (with_reducible refine Kd.C_alloc ?_ _) | (with_reducible refine Kd.C_drewN ?_ _) | (with_reducible refine Kd.C_drew ?_))); (case side2 => exact (Kd.R_reads' HO_410004.out).2.1); rintro e w42 ⟨rfl, hb⟩; refine ⟨_, rfl, ?_⟩; have n0_ := Aside0.mk (Kd.R_below (by (with_reducible repeat (first | apply Kd.R_alloc | apply Kd.R_drewN | apply Kd.R_drew)); exact HO_410004.out) hb); have n1_ := Aside0.mk (blk_below (g := gb409) (o := .cells #[.string x410000_17, .int .i64 x410001_17, .bool x410002_17, .string x410003_17, .slice Ao41 x410004_17.length co41] 24 (0, 0)) (by (with_reducible repeat (first | refine blk_drewN ?_ _ | refine blk_drew ?_ | refine blk_alloc ?_ _)); exact BK409.out) hb); have n2_ := Aside0.mk (below_step (by repeat (first | (with_reducible first | exact HB.out | apply below_alloc | apply pw_below_drewN | apply below_drew1 | refine below_set ?_ GE409.out) | exact HB.out)) hb); clear HO_410004; clear BK409; clear HB; have HO_410004 := n0_; have BK409 := n1_; have HB := n2_; clear n0_ n1_ n2_; (try clear hb); (try clear hb2); (try clear hk); (try clear hi); have hcz43_0 : w42.cell? ⟨gb409, 0, none⟩ = some (.string x410000_17) := (blk_cell BK409.out 0).trans rfl; have hcz43_1 : w42.cell? ⟨gb409, 1, none⟩ = some (.int .i64 x410001_17) := (blk_cell BK409.out 1).trans rfl; have hcz43_2 : w42.cell? ⟨gb409, 2, none⟩ = some (.bool x410002_17) := (blk_cell BK409.out 2).trans rfl; have hcz43_3 : w42.cell? ⟨gb409, 3, none⟩ = some (.string x410003_17) := (blk_cell BK409.out 3).trans rfl; have hcz43_4 : w42.cell? ⟨gb409, 4, none⟩ = some (.slice Ao41 x410004_17.length co41) := (blk_cell BK409.out 4).trans rfl; have hfz43_0 := blk_frozen BK409.out 0; have hfz43_1 := blk_frozen BK409.out 1; have hfz43_2 := blk_frozen BK409.out 2; have hfz43_3 := blk_frozen BK409.out 3; have hfz43_4 := blk_frozen BK409.out 4) | ((with_reducible refine gate_dst (N := 65) rfl ?_); refine Kd.R_make (Kd.int .u8) _ 5 rfl (N := 65) rfl 38 _ _ rfl 1025 rfl rfl Try.underlying38 (.int .u8 0) 1 info5 rfl (by decide) (by omega) 0 (ok := fun _ => True) (okp := fun _ => True) rfl (fun _ hk => hk) trivial (by omega) (by omega) (Below.refl _ _) (Nat.le_refl _) ?_; intro v415 w44 ho45 hb hg_ hnew_; clear hg_ hnew_; (first | rw [← Ny414.out] at ho45 | (simp only [Int.reduceToNat] at ho45; rw [← Ny414.out] at ho45)); have n0_ := Aside0.mk (Kd.R_below (by (with_reducible repeat (first | apply Kd.R_alloc | apply Kd.R_drewN | apply Kd.R_drew)); exact (Kd.R_mono (Kd.R_far (p := ⟨gb409, 1, none⟩) (Kd.R_types HO_410004.out BK409.out (by decide)) (fun _ hk => hk.2) (.int .i64 1099511627777)) (fun _ h_ => h_.1))) hb); have n1_ := Aside0.mk (Kd.R_lower ho45 (below_size (by repeat (first | (with_reducible first | exact HB.out | apply below_alloc | apply pw_below_drewN | apply below_drew1 | refine below_set ?_ GE409.out) | exact HB.out)))); have n2_ := Aside0.mk (blk_below (g := gb409) (o := .cells #[.string x410000_17, .int .i64 1099511627777, .bool x410002_17, .string x410003_17, .slice Ao41 x410004_17.length co41] 24 (0, 0)) (by (with_reducible repeat (first | refine blk_drewN ?_ _ | refine blk_drew ?_ | refine blk_alloc ?_ _)); refine blk_put (cs := #[.string x410000_17, .int .i64 x410001_17, .bool x410002_17, .string x410003_17, .slice Ao41 x410004_17.length co41]) ?_ 1 _ rfl; (with_reducible repeat (first | refine blk_drewN ?_ _ | refine blk_drew ?_ | refine blk_alloc ?_ _)); exact BK409.out) hb); have n3_ := Aside0.mk (below_step (by repeat (first | (with_reducible first | exact HB.out | apply below_alloc | apply pw_below_drewN | apply below_drew1 | refine below_set ?_ GE409.out) | exact HB.out)) hb); clear HO_410004; clear BK409; clear HB; have HO_410004 := n0_; have HO416 := n1_; have BK409 := n2_; have HB := n3_; clear n0_ n1_ n2_ n3_; clear hb ho45; have hcv46 := own_string (P := Try.prog) Try.underlying38 Try.underlying5 Try.underlying9 (Kd.own_of_R HO416.out); have hcz47_0 : w44.cell? ⟨gb409, 0, none⟩ = some (.string x410000_17) := (blk_cell BK409.out 0).trans rfl; have hcz47_1 : w44.cell? ⟨gb409, 1, none⟩ = some (.int .i64 1099511627777) := (blk_cell BK409.out 1).trans rfl; have hcz47_2 : w44.cell? ⟨gb409, 2, none⟩ = some (.bool x410002_17) := (blk_cell BK409.out 2).trans rfl; have hcz47_3 : w44.cell? ⟨gb409, 3, none⟩ = some (.string x410003_17) := (blk_cell BK409.out 3).trans rfl; have hcz47_4 : w44.cell? ⟨gb409, 4, none⟩ = some (.slice Ao41 x410004_17.length co41) := (blk_cell BK409.out 4).trans rfl; have hfz47_0 := blk_frozen BK409.out 0; have hfz47_1 := blk_frozen BK409.out 1; have hfz47_2 := blk_frozen BK409.out 2; have hfz47_3 := blk_frozen BK409.out 3; have hfz47_4 := blk_frozen BK409.out 4) | ((with_reducible refine gate_callee (f := 9) rfl ?_); refine goesL_ (some 109) rfl rfl Try.func9 (by kernel_rfl) rfl #[.agg #[.string x410000_17, .int .i64 1099511627777, .bool x410002_17, .string (strOfNums y414), .slice Ao41 x410004_17.length co41]] rfl (by (try simp only [List.map_toArray, List.map_cons, List.map_nil]); first | done | rfl | (simp only [List.length_drop, List.length_take]; rfl)) ?_; (with_reducible refine (version_Write.calls kj17 x410000_17 1099511627777 x410002_17 (strOfNums y414) _ _ x410004_17 t417 t418 _ ?side1 ?side2 A38.out).mono ?_); (case side1 => refine (Kd.R_reads' (e := 31) (base := w.heap.size) (ok := fun k_ => True) (n := x410004_17.length) (c := co41) ?_).2.2; exact (by (with_reducible repeat (first | apply Kd.R_alloc | apply Kd.R_drewN | apply Kd.R_drew)); exact (Kd.R_mono (Kd.R_far (p := ⟨gb409, 3, none⟩) (Kd.R_types HO_410004.out BK409.out (by decide)) (fun _ hk => hk.2) (.string (strOfNums y414))) (fun _ h_ => h_.1)))); (case side2 => exact (Kd.R_reads' HO_410004.out).2.1); rintro e w48 ⟨rfl, hb⟩; refine ⟨_, rfl, ?_⟩; have n0_ := Aside0.mk (Kd.R_below (by (with_reducible repeat (first | apply Kd.R_alloc | apply Kd.R_drewN | apply Kd.R_drew)); exact (Kd.R_mono (Kd.R_far (p := ⟨gb409, 3, none⟩) (Kd.R_types HO_410004.out BK409.out (by decide)) (fun _ hk => hk.2) (.string (strOfNums y414))) (fun _ h_ => h_.1))) hb); have n1_ := Aside0.mk (Kd.R_below (by (with_reducible repeat (first | apply Kd.R_alloc | apply Kd.R_drewN | apply Kd.R_drew)); exact (Kd.R_mono (Kd.R_far (p := ⟨gb409, 3, none⟩) (Kd.R_types HO416.out BK409.out (by decide)) (fun _ hk => hk.2) (.string (strOfNums y414))) (fun _ h_ => h_.1))) hb); have n2_ := Aside0.mk (blk_below (g := gb409) (o := .cells #[.string x410000_17, .int .i64 1099511627777, .bool x410002_17, .string (strOfNums y414), .slice Ao41 x410004_17.length co41] 24 (0, 0)) (by (with_reducible repeat (first | refine blk_drewN ?_ _ | refine blk_drew ?_ | refine blk_alloc ?_ _)); refine blk_put (cs := #[.string x410000_17, .int .i64 1099511627777, .bool x410002_17, .string x410003_17, .slice Ao41 x410004_17.length co41]) ?_ 3 _ rfl; (with_reducible repeat (first | refine blk_drewN ?_ _ | refine blk_drew ?_ | refine blk_alloc ?_ _)); exact BK409.out) hb); have n3_ := Aside0.mk (below_step (by repeat (first | (with_reducible first | exact HB.out | apply below_alloc | apply pw_below_drewN | apply below_drew1 | refine below_set ?_ GE409.out) | exact HB.out)) hb); clear HO_410004; clear HO416; clear BK409; clear HB; have HO_410004 := n0_; have HO416 := n1_; have BK409 := n2_; have HB := n3_; clear n0_ n1_ n2_ n3_; (try clear hb); (try clear hb2); (try clear hk); (try clear hi)))
                            go_ret
                            exact ⟨by first | rfl | (simp [errW_none, errW_some] <;> rfl) | (simp [*, errW_none, errW_some] <;> rfl), by repeat (first | (with_reducible first | exact HB.out | apply below_alloc | apply pw_below_drewN | apply below_drew1 | refine below_set ?_ GE409.out) | exact HB.out)⟩
                          · rw [if_neg c39] at H
                            exact absurd H (by simp)
                        · rw [if_neg c37] at H
                          exact absurd H (by simp)
                      · rw [if_neg c36] at H
                        have c36b0 : ((Go.bits .and .i64 a4 7) == 1) = false := beq_eq_false_iff_ne.mpr c36
                        have c36b1 : ((Go.bits .and .i64 a4 7) != 1) = true := bne_iff_ne.mpr c36
                        by_cases c49 : (Go.bits .and .i64 a4 7) = 2
                        · rw [if_pos c49] at H
                          have c49b0 : ((Go.bits .and .i64 a4 7) == 2) = true := beq_iff_eq.mpr c49
                          have c49b1 : ((Go.bits .and .i64 a4 7) != 2) = false := bne_eq_false_iff_eq.mpr c49
                          clear c49
                          by_cases c50 : 1025 ≤ 281474976710656
                          · rw [if_pos c50] at H
                            have c50b0 := eq_true c50
                            have c50b1 : decide (1025 ≤ 281474976710656) = true := decide_eq_true c50
                            clear c50
                            obtain ⟨y419, hy419⟩ : ∃ y_ : List Int, y_ = (List.replicate 1025 0) := ⟨_, rfl⟩
                            replace H : ((version_Write.f kj17 (⟨#[]⟩ : ByteArray) x410001_17 x410002_17 (strOfNums y419) x410004_17).bind fun bt422 => (if bt422.1.toList = ([] : List UInt8) then (some (bt422.2 == 61)) else (none))) = some r := by first | (rw [hy419]; with_reducible exact H) | (have H2_ := (Option.bind_some _ _).symm.trans H; rw [hy419]; with_reducible exact H2_) | (have H2_ := (Option.bind_some _ _).symm.trans H; with_reducible exact H2_) | with_reducible exact H | (rw [hy419]; exact H) | exact H
                            have Ny419 := Aside0.mk hy419
                            clear hy419
                            replace H := Option.bind_eq_some_iff.mp H
                            obtain ⟨⟨t422, t423⟩, A510, H⟩ := H
                            replace H : (if t422.toList = ([] : List UInt8) then (some (t423 == 61)) else (none)) = some r := H
                            have A51 := Aside0.mk A510
                            clear A510
                            by_cases c52 : t422.toList = ([] : List UInt8)
                            · rw [if_pos c52] at H
                              have c52b0 : (t422.toList == ([] : List UInt8)) = true := beq_iff_eq.mpr c52
                              have c52b1 : (t422.toList != ([] : List UInt8)) = false := bne_eq_false_iff_eq.mpr c52
                              clear c52
                              obtain rfl := Option.some.inj H
                              have hcz53_0 : wc.cell? ⟨gb409, 0, none⟩ = some (.string x410000_17) := (blk_cell BK409.out 0).trans rfl
                              have hcz53_1 : wc.cell? ⟨gb409, 1, none⟩ = some (.int .i64 x410001_17) := (blk_cell BK409.out 1).trans rfl
                              have hcz53_2 : wc.cell? ⟨gb409, 2, none⟩ = some (.bool x410002_17) := (blk_cell BK409.out 2).trans rfl
                              have hcz53_3 : wc.cell? ⟨gb409, 3, none⟩ = some (.string x410003_17) := (blk_cell BK409.out 3).trans rfl
                              have hcz53_4 : wc.cell? ⟨gb409, 4, none⟩ = some (u410004) := (blk_cell BK409.out 4).trans rfl
                              have hfz53_0 := blk_frozen BK409.out 0
                              have hfz53_1 := blk_frozen BK409.out 1
                              have hfz53_2 := blk_frozen BK409.out 2
                              have hfz53_3 := blk_frozen BK409.out 3
                              have hfz53_4 := blk_frozen BK409.out 4
                              obtain ⟨Ao54, co54, eo54⟩ := Kd.R_slice HO_410004.out
                              subst eo54
                              go_wp2_with (first | ((with_reducible refine gate_callee (f := 9) rfl ?_); refine goesL_ (some 46) rfl rfl Try.func9 (by kernel_rfl) rfl #[.agg #[.string x410000_17, .int .i64 x410001_17, .bool x410002_17, .string x410003_17, .slice Ao54 x410004_17.length co54]] rfl (by (try simp only [List.map_toArray, List.map_cons, List.map_nil]); first | done | rfl | (simp only [List.length_drop, List.length_take]; rfl)) ?_; (with_reducible refine (version_Write.calls kj17 x410000_17 x410001_17 x410002_17 x410003_17 _ _ x410004_17 t410 t411 _ ?side1 ?side2 A26.out).mono ?_); (case side1 => repeat (first | exact (Kd.R_reads' HO_410004.out).2.2 | (with_reducible refine Kd.C_alloc ?_ _) | (with_reducible refine Kd.C_drewN ?_ _) | (with_reducible refine Kd.C_drew ?_))); (case side2 => exact (Kd.R_reads' HO_410004.out).2.1); rintro e w55 ⟨rfl, hb⟩; refine ⟨_, rfl, ?_⟩; have n0_ := Aside0.mk (Kd.R_below (by (with_reducible repeat (first | apply Kd.R_alloc | apply Kd.R_drewN | apply Kd.R_drew)); exact HO_410004.out) hb); have n1_ := Aside0.mk (blk_below (g := gb409) (o := .cells #[.string x410000_17, .int .i64 x410001_17, .bool x410002_17, .string x410003_17, .slice Ao54 x410004_17.length co54] 24 (0, 0)) (by (with_reducible repeat (first | refine blk_drewN ?_ _ | refine blk_drew ?_ | refine blk_alloc ?_ _)); exact BK409.out) hb); have n2_ := Aside0.mk (below_step (by repeat (first | (with_reducible first | exact HB.out | apply below_alloc | apply pw_below_drewN | apply below_drew1 | refine below_set ?_ GE409.out) | exact HB.out)) hb); clear HO_410004; clear BK409; clear HB; have HO_410004 := n0_; have BK409 := n1_; have HB := n2_; clear n0_ n1_ n2_; (try clear hb); (try clear hb2); (try clear hk); (try clear hi); have hcz56_0 : w55.cell? ⟨gb409, 0, none⟩ = some (.string x410000_17) := (blk_cell BK409.out 0).trans rfl; have hcz56_1 : w55.cell? ⟨gb409, 1, none⟩ = some (.int .i64 x410001_17) := (blk_cell BK409.out 1).trans rfl; have hcz56_2 : w55.cell? ⟨gb409, 2, none⟩ = some (.bool x410002_17) := (blk_cell BK409.out 2).trans rfl; have hcz56_3 : w55.cell? ⟨gb409, 3, none⟩ = some (.string x410003_17) := (blk_cell BK409.out 3).trans rfl; have hcz56_4 : w55.cell? ⟨gb409, 4, none⟩ = some (.slice Ao54 x410004_17.length co54) := (blk_cell BK409.out 4).trans rfl; have hfz56_0 := blk_frozen BK409.out 0; have hfz56_1 := blk_frozen BK409.out 1; have hfz56_2 := blk_frozen BK409.out 2; have hfz56_3 := blk_frozen BK409.out 3; have hfz56_4 := blk_frozen BK409.out 4) | ((with_reducible refine gate_dst (N := 71) rfl ?_); refine Kd.R_make (Kd.int .u8) _ 5 rfl (N := 71) rfl 38 _ _ rfl 1025 rfl rfl Try.underlying38 (.int .u8 0) 1 info5 rfl (by decide) (by omega) 0 (ok := fun _ => True) (okp := fun _ => True) rfl (fun _ hk => hk) trivial (by omega) (by omega) (Below.refl _ _) (Nat.le_refl _) ?_; intro v420 w57 ho58 hb hg_ hnew_; clear hg_ hnew_; (first | rw [← Ny419.out] at ho58 | (simp only [Int.reduceToNat] at ho58; rw [← Ny419.out] at ho58)); have n0_ := Aside0.mk (Kd.R_below (by (with_reducible repeat (first | apply Kd.R_alloc | apply Kd.R_drewN | apply Kd.R_drew)); exact (Kd.R_mono (Kd.R_far (p := ⟨gb409, 0, none⟩) (Kd.R_types HO_410004.out BK409.out (by decide)) (fun _ hk => hk.2) (.string (⟨#[]⟩ : ByteArray))) (fun _ h_ => h_.1))) hb); have n1_ := Aside0.mk (Kd.R_lower ho58 (below_size (by repeat (first | (with_reducible first | exact HB.out | apply below_alloc | apply pw_below_drewN | apply below_drew1 | refine below_set ?_ GE409.out) | exact HB.out)))); have n2_ := Aside0.mk (blk_below (g := gb409) (o := .cells #[.string (⟨#[]⟩ : ByteArray), .int .i64 x410001_17, .bool x410002_17, .string x410003_17, .slice Ao54 x410004_17.length co54] 24 (0, 0)) (by (with_reducible repeat (first | refine blk_drewN ?_ _ | refine blk_drew ?_ | refine blk_alloc ?_ _)); refine blk_put (cs := #[.string x410000_17, .int .i64 x410001_17, .bool x410002_17, .string x410003_17, .slice Ao54 x410004_17.length co54]) ?_ 0 _ rfl; (with_reducible repeat (first | refine blk_drewN ?_ _ | refine blk_drew ?_ | refine blk_alloc ?_ _)); exact BK409.out) hb); have n3_ := Aside0.mk (below_step (by repeat (first | (with_reducible first | exact HB.out | apply below_alloc | apply pw_below_drewN | apply below_drew1 | refine below_set ?_ GE409.out) | exact HB.out)) hb); clear HO_410004; clear BK409; clear HB; have HO_410004 := n0_; have HO421 := n1_; have BK409 := n2_; have HB := n3_; clear n0_ n1_ n2_ n3_; clear hb ho58; have hcv59 := own_string (P := Try.prog) Try.underlying38 Try.underlying5 Try.underlying9 (Kd.own_of_R HO421.out); have hcz60_0 : w57.cell? ⟨gb409, 0, none⟩ = some (.string (⟨#[]⟩ : ByteArray)) := (blk_cell BK409.out 0).trans rfl; have hcz60_1 : w57.cell? ⟨gb409, 1, none⟩ = some (.int .i64 x410001_17) := (blk_cell BK409.out 1).trans rfl; have hcz60_2 : w57.cell? ⟨gb409, 2, none⟩ = some (.bool x410002_17) := (blk_cell BK409.out 2).trans rfl; have hcz60_3 : w57.cell? ⟨gb409, 3, none⟩ = some (.string x410003_17) := (blk_cell BK409.out 3).trans rfl; have hcz60_4 : w57.cell? ⟨gb409, 4, none⟩ = some (.slice Ao54 x410004_17.length co54) := (blk_cell BK409.out 4).trans rfl; have hfz60_0 := blk_frozen BK409.out 0; have hfz60_1 := blk_frozen BK409.out 1; have hfz60_2 := blk_frozen BK409.out 2; have hfz60_3 := blk_frozen BK409.out 3; have hfz60_4 := blk_frozen BK409.out 4) | ((with_reducible refine gate_callee (f := 9) rfl ?_); refine goesL_ (some 109) rfl rfl Try.func9 (by kernel_rfl) rfl #[.agg #[.string (⟨#[]⟩ : ByteArray), .int .i64 x410001_17, .bool x410002_17, .string (strOfNums y419), .slice Ao54 x410004_17.length co54]] rfl (by (try simp only [List.map_toArray, List.map_cons, List.map_nil]); first | done | rfl | (simp only [List.length_drop, List.length_take]; rfl)) ?_; (with_reducible refine (version_Write.calls kj17 (⟨#[]⟩ : ByteArray) x410001_17 x410002_17 (strOfNums y419) _ _ x410004_17 t422 t423 _ ?side1 ?side2 A51.out).mono ?_); (case side1 => refine (Kd.R_reads' (e := 31) (base := w.heap.size) (ok := fun k_ => True) (n := x410004_17.length) (c := co54) ?_).2.2; exact (by (with_reducible repeat (first | apply Kd.R_alloc | apply Kd.R_drewN | apply Kd.R_drew)); exact (Kd.R_mono (Kd.R_far (p := ⟨gb409, 3, none⟩) (Kd.R_types HO_410004.out BK409.out (by decide)) (fun _ hk => hk.2) (.string (strOfNums y419))) (fun _ h_ => h_.1)))); (case side2 => exact (Kd.R_reads' HO_410004.out).2.1); rintro e w61 ⟨rfl, hb⟩; refine ⟨_, rfl, ?_⟩; have n0_ := Aside0.mk (Kd.R_below (by (with_reducible repeat (first | apply Kd.R_alloc | apply Kd.R_drewN | apply Kd.R_drew)); exact (Kd.R_mono (Kd.R_far (p := ⟨gb409, 3, none⟩) (Kd.R_types HO_410004.out BK409.out (by decide)) (fun _ hk => hk.2) (.string (strOfNums y419))) (fun _ h_ => h_.1))) hb); have n1_ := Aside0.mk (Kd.R_below (by (with_reducible repeat (first | apply Kd.R_alloc | apply Kd.R_drewN | apply Kd.R_drew)); exact (Kd.R_mono (Kd.R_far (p := ⟨gb409, 3, none⟩) (Kd.R_types HO421.out BK409.out (by decide)) (fun _ hk => hk.2) (.string (strOfNums y419))) (fun _ h_ => h_.1))) hb); have n2_ := Aside0.mk (blk_below (g := gb409) (o := .cells #[.string (⟨#[]⟩ : ByteArray), .int .i64 x410001_17, .bool x410002_17, .string (strOfNums y419), .slice Ao54 x410004_17.length co54] 24 (0, 0)) (by (with_reducible repeat (first | refine blk_drewN ?_ _ | refine blk_drew ?_ | refine blk_alloc ?_ _)); refine blk_put (cs := #[.string (⟨#[]⟩ : ByteArray), .int .i64 x410001_17, .bool x410002_17, .string x410003_17, .slice Ao54 x410004_17.length co54]) ?_ 3 _ rfl; (with_reducible repeat (first | refine blk_drewN ?_ _ | refine blk_drew ?_ | refine blk_alloc ?_ _)); exact BK409.out) hb); have n3_ := Aside0.mk (below_step (by repeat (first | (with_reducible first | exact HB.out | apply below_alloc | apply pw_below_drewN | apply below_drew1 | refine below_set ?_ GE409.out) | exact HB.out)) hb); clear HO_410004; clear HO421; clear BK409; clear HB; have HO_410004 := n0_; have HO421 := n1_; have BK409 := n2_; have HB := n3_; clear n0_ n1_ n2_ n3_; (try clear hb); (try clear hb2); (try clear hk); (try clear hi)))
                              go_ret
                              exact ⟨by first | rfl | (simp [errW_none, errW_some] <;> rfl) | (simp [*, errW_none, errW_some] <;> rfl), by repeat (first | (with_reducible first | exact HB.out | apply below_alloc | apply pw_below_drewN | apply below_drew1 | refine below_set ?_ GE409.out) | exact HB.out)⟩
                            · rw [if_neg c52] at H
                              exact absurd H (by simp)
                          · rw [if_neg c50] at H
                            exact absurd H (by simp)
                        · rw [if_neg c49] at H
                          have c49b0 : ((Go.bits .and .i64 a4 7) == 2) = false := beq_eq_false_iff_ne.mpr c49
                          have c49b1 : ((Go.bits .and .i64 a4 7) != 2) = true := bne_iff_ne.mpr c49
                          by_cases c62 : (Go.bits .and .i64 a4 7) = 3
                          · rw [if_pos c62] at H
                            have c62b0 : ((Go.bits .and .i64 a4 7) == 3) = true := beq_iff_eq.mpr c62
                            have c62b1 : ((Go.bits .and .i64 a4 7) != 3) = false := bne_eq_false_iff_eq.mpr c62
                            clear c62
                            by_cases c63 : 65 ≤ 281474976710656
                            · rw [if_pos c63] at H
                              have c63b0 := eq_true c63
                              have c63b1 : decide (65 ≤ 281474976710656) = true := decide_eq_true c63
                              clear c63
                              obtain ⟨y424, hy424⟩ : ∃ y_ : List Int, y_ = (List.replicate 65 0) := ⟨_, rfl⟩
                              replace H : ((version_Write.f kj17 (strOfNums y424) x410001_17 x410002_17 x410003_17 x410004_17).bind fun bt427 => (if bt427.1.toList = ([] : List UInt8) then (some (bt427.2 == 61)) else (none))) = some r := by first | (rw [hy424]; with_reducible exact H) | (have H2_ := (Option.bind_some _ _).symm.trans H; rw [hy424]; with_reducible exact H2_) | (have H2_ := (Option.bind_some _ _).symm.trans H; with_reducible exact H2_) | with_reducible exact H | (rw [hy424]; exact H) | exact H
                              have Ny424 := Aside0.mk hy424
                              clear hy424
                              replace H := Option.bind_eq_some_iff.mp H
                              obtain ⟨⟨t427, t428⟩, A640, H⟩ := H
                              replace H : (if t427.toList = ([] : List UInt8) then (some (t428 == 61)) else (none)) = some r := H
                              have A64 := Aside0.mk A640
                              clear A640
                              by_cases c65 : t427.toList = ([] : List UInt8)
                              · rw [if_pos c65] at H
                                have c65b0 : (t427.toList == ([] : List UInt8)) = true := beq_iff_eq.mpr c65
                                have c65b1 : (t427.toList != ([] : List UInt8)) = false := bne_eq_false_iff_eq.mpr c65
                                clear c65
                                obtain rfl := Option.some.inj H
                                have hcz66_0 : wc.cell? ⟨gb409, 0, none⟩ = some (.string x410000_17) := (blk_cell BK409.out 0).trans rfl
                                have hcz66_1 : wc.cell? ⟨gb409, 1, none⟩ = some (.int .i64 x410001_17) := (blk_cell BK409.out 1).trans rfl
                                have hcz66_2 : wc.cell? ⟨gb409, 2, none⟩ = some (.bool x410002_17) := (blk_cell BK409.out 2).trans rfl
                                have hcz66_3 : wc.cell? ⟨gb409, 3, none⟩ = some (.string x410003_17) := (blk_cell BK409.out 3).trans rfl
                                have hcz66_4 : wc.cell? ⟨gb409, 4, none⟩ = some (u410004) := (blk_cell BK409.out 4).trans rfl
                                have hfz66_0 := blk_frozen BK409.out 0
                                have hfz66_1 := blk_frozen BK409.out 1
                                have hfz66_2 := blk_frozen BK409.out 2
                                have hfz66_3 := blk_frozen BK409.out 3
                                have hfz66_4 := blk_frozen BK409.out 4
                                obtain ⟨Ao67, co67, eo67⟩ := Kd.R_slice HO_410004.out
                                subst eo67
                                go_wp2_with (first | ((with_reducible refine gate_callee (f := 9) rfl ?_); refine goesL_ (some 46) rfl rfl Try.func9 (by kernel_rfl) rfl #[.agg #[.string x410000_17, .int .i64 x410001_17, .bool x410002_17, .string x410003_17, .slice Ao67 x410004_17.length co67]] rfl (by (try simp only [List.map_toArray, List.map_cons, List.map_nil]); first | done | rfl | (simp only [List.length_drop, List.length_take]; rfl)) ?_; (with_reducible refine (version_Write.calls kj17 x410000_17 x410001_17 x410002_17 x410003_17 _ _ x410004_17 t410 t411 _ ?side1 ?side2 A26.out).mono ?_); (case side1 => repeat (first | exact (Kd.R_reads' HO_410004.out).2.2 | (with_reducible refine Kd.C_alloc ?_ _) | (with_reducible refine Kd.C_drewN ?_ _) | (with_reducible refine Kd.C_drew ?_))); (case side2 => exact (Kd.R_reads' HO_410004.out).2.1); rintro e w68 ⟨rfl, hb⟩; refine ⟨_, rfl, ?_⟩; have n0_ := Aside0.mk (Kd.R_below (by (with_reducible repeat (first | apply Kd.R_alloc | apply Kd.R_drewN | apply Kd.R_drew)); exact HO_410004.out) hb); have n1_ := Aside0.mk (blk_below (g := gb409) (o := .cells #[.string x410000_17, .int .i64 x410001_17, .bool x410002_17, .string x410003_17, .slice Ao67 x410004_17.length co67] 24 (0, 0)) (by (with_reducible repeat (first | refine blk_drewN ?_ _ | refine blk_drew ?_ | refine blk_alloc ?_ _)); exact BK409.out) hb); have n2_ := Aside0.mk (below_step (by repeat (first | (with_reducible first | exact HB.out | apply below_alloc | apply pw_below_drewN | apply below_drew1 | refine below_set ?_ GE409.out) | exact HB.out)) hb); clear HO_410004; clear BK409; clear HB; have HO_410004 := n0_; have BK409 := n1_; have HB := n2_; clear n0_ n1_ n2_; (try clear hb); (try clear hb2); (try clear hk); (try clear hi)) | ((with_reducible refine gate_dst (N := 76) rfl ?_); refine Kd.R_make (Kd.int .u8) _ 5 rfl (N := 76) rfl 38 _ _ rfl 65 rfl rfl Try.underlying38 (.int .u8 0) 1 info5 rfl (by decide) (by omega) 0 (ok := fun _ => True) (okp := fun _ => True) rfl (fun _ hk => hk) trivial (by omega) (by omega) (Below.refl _ _) (Nat.le_refl _) ?_; intro v425 w69 ho70 hb hg_ hnew_; clear hg_ hnew_; (first | rw [← Ny424.out] at ho70 | (simp only [Int.reduceToNat] at ho70; rw [← Ny424.out] at ho70)); have n0_ := Aside0.mk (Kd.R_below (by (with_reducible repeat (first | apply Kd.R_alloc | apply Kd.R_drewN | apply Kd.R_drew)); exact HO_410004.out) hb); have n1_ := Aside0.mk (Kd.R_lower ho70 (below_size (by repeat (first | (with_reducible first | exact HB.out | apply below_alloc | apply pw_below_drewN | apply below_drew1 | refine below_set ?_ GE409.out) | exact HB.out)))); have n2_ := Aside0.mk (blk_below (g := gb409) (o := .cells #[.string x410000_17, .int .i64 x410001_17, .bool x410002_17, .string x410003_17, .slice Ao67 x410004_17.length co67] 24 (0, 0)) (by (with_reducible repeat (first | refine blk_drewN ?_ _ | refine blk_drew ?_ | refine blk_alloc ?_ _)); exact BK409.out) hb); have n3_ := Aside0.mk (below_step (by repeat (first | (with_reducible first | exact HB.out | apply below_alloc | apply pw_below_drewN | apply below_drew1 | refine below_set ?_ GE409.out) | exact HB.out)) hb); clear HO_410004; clear BK409; clear HB; have HO_410004 := n0_; have HO426 := n1_; have BK409 := n2_; have HB := n3_; clear n0_ n1_ n2_ n3_; clear hb ho70; have hcv71 := own_string (P := Try.prog) Try.underlying38 Try.underlying5 Try.underlying9 (Kd.own_of_R HO426.out); have hcz72_0 : w69.cell? ⟨gb409, 0, none⟩ = some (.string x410000_17) := (blk_cell BK409.out 0).trans rfl; have hcz72_1 : w69.cell? ⟨gb409, 1, none⟩ = some (.int .i64 x410001_17) := (blk_cell BK409.out 1).trans rfl; have hcz72_2 : w69.cell? ⟨gb409, 2, none⟩ = some (.bool x410002_17) := (blk_cell BK409.out 2).trans rfl; have hcz72_3 : w69.cell? ⟨gb409, 3, none⟩ = some (.string x410003_17) := (blk_cell BK409.out 3).trans rfl; have hcz72_4 : w69.cell? ⟨gb409, 4, none⟩ = some (.slice Ao67 x410004_17.length co67) := (blk_cell BK409.out 4).trans rfl; have hfz72_0 := blk_frozen BK409.out 0; have hfz72_1 := blk_frozen BK409.out 1; have hfz72_2 := blk_frozen BK409.out 2; have hfz72_3 := blk_frozen BK409.out 3; have hfz72_4 := blk_frozen BK409.out 4) | ((with_reducible refine gate_callee (f := 9) rfl ?_); refine goesL_ (some 109) rfl rfl Try.func9 (by kernel_rfl) rfl #[.agg #[.string (strOfNums y424), .int .i64 x410001_17, .bool x410002_17, .string x410003_17, .slice Ao67 x410004_17.length co67]] rfl (by (try simp only [List.map_toArray, List.map_cons, List.map_nil]); first | done | rfl | (simp only [List.length_drop, List.length_take]; rfl)) ?_; (with_reducible refine (version_Write.calls kj17 (strOfNums y424) x410001_17 x410002_17 x410003_17 _ _ x410004_17 t427 t428 _ ?side1 ?side2 A64.out).mono ?_); (case side1 => refine (Kd.R_reads' (e := 31) (base := w.heap.size) (ok := fun k_ => True) (n := x410004_17.length) (c := co67) ?_).2.2; exact (by (with_reducible repeat (first | apply Kd.R_alloc | apply Kd.R_drewN | apply Kd.R_drew)); exact (Kd.R_mono (Kd.R_far (p := ⟨gb409, 0, none⟩) (Kd.R_types HO_410004.out BK409.out (by decide)) (fun _ hk => hk.2) (.string (strOfNums y424))) (fun _ h_ => h_.1)))); (case side2 => exact (Kd.R_reads' HO_410004.out).2.1); rintro e w73 ⟨rfl, hb⟩; refine ⟨_, rfl, ?_⟩; have n0_ := Aside0.mk (Kd.R_below (by (with_reducible repeat (first | apply Kd.R_alloc | apply Kd.R_drewN | apply Kd.R_drew)); exact (Kd.R_mono (Kd.R_far (p := ⟨gb409, 0, none⟩) (Kd.R_types HO_410004.out BK409.out (by decide)) (fun _ hk => hk.2) (.string (strOfNums y424))) (fun _ h_ => h_.1))) hb); have n1_ := Aside0.mk (Kd.R_below (by (with_reducible repeat (first | apply Kd.R_alloc | apply Kd.R_drewN | apply Kd.R_drew)); exact (Kd.R_mono (Kd.R_far (p := ⟨gb409, 0, none⟩) (Kd.R_types HO426.out BK409.out (by decide)) (fun _ hk => hk.2) (.string (strOfNums y424))) (fun _ h_ => h_.1))) hb); have n2_ := Aside0.mk (blk_below (g := gb409) (o := .cells #[.string (strOfNums y424), .int .i64 x410001_17, .bool x410002_17, .string x410003_17, .slice Ao67 x410004_17.length co67] 24 (0, 0)) (by (with_reducible repeat (first | refine blk_drewN ?_ _ | refine blk_drew ?_ | refine blk_alloc ?_ _)); refine blk_put (cs := #[.string x410000_17, .int .i64 x410001_17, .bool x410002_17, .string x410003_17, .slice Ao67 x410004_17.length co67]) ?_ 0 _ rfl; (with_reducible repeat (first | refine blk_drewN ?_ _ | refine blk_drew ?_ | refine blk_alloc ?_ _)); exact BK409.out) hb); have n3_ := Aside0.mk (below_step (by repeat (first | (with_reducible first | exact HB.out | apply below_alloc | apply pw_below_drewN | apply below_drew1 | refine below_set ?_ GE409.out) | exact HB.out)) hb); clear HO_410004; clear HO426; clear BK409; clear HB; have HO_410004 := n0_; have HO426 := n1_; have BK409 := n2_; have HB := n3_; clear n0_ n1_ n2_ n3_; (try clear hb); (try clear hb2); (try clear hk); (try clear hi)))
                                go_ret
                                exact ⟨by first | rfl | (simp [errW_none, errW_some] <;> rfl) | (simp [*, errW_none, errW_some] <;> rfl), by repeat (first | (with_reducible first | exact HB.out | apply below_alloc | apply pw_below_drewN | apply below_drew1 | refine below_set ?_ GE409.out) | exact HB.out)⟩
                              · rw [if_neg c65] at H
                                exact absurd H (by simp)
                            · rw [if_neg c63] at H
                              exact absurd H (by simp)
                          · rw [if_neg c62] at H
                            have c62b0 : ((Go.bits .and .i64 a4 7) == 3) = false := beq_eq_false_iff_ne.mpr c62
                            have c62b1 : ((Go.bits .and .i64 a4 7) != 3) = true := bne_iff_ne.mpr c62
                            by_cases c74 : (Go.bits .and .i64 a4 7) = 4
                            · rw [if_pos c74] at H
                              have c74b0 : ((Go.bits .and .i64 a4 7) == 4) = true := beq_iff_eq.mpr c74
                              have c74b1 : ((Go.bits .and .i64 a4 7) != 4) = false := bne_eq_false_iff_eq.mpr c74
                              clear c74
                              by_cases c75 : 1025 ≤ 281474976710656
                              · rw [if_pos c75] at H
                                have c75b0 := eq_true c75
                                have c75b1 : decide (1025 ≤ 281474976710656) = true := decide_eq_true c75
                                clear c75
                                obtain ⟨y429, hy429⟩ : ∃ y_ : List Int, y_ = (List.replicate 1025 0) := ⟨_, rfl⟩
                                replace H : ((some (([(⟨(⟨#[97]⟩ : ByteArray), (⟨#[]⟩ : ByteArray)⟩ : S31), (⟨(⟨#[97]⟩ : ByteArray), (⟨#[]⟩ : ByteArray)⟩ : S31)] : List (S31)) : List (S31))).bind fun y432 => (if x410004_17.length + y432.length < 4398046511104 then ((version_Write.f kj17 x410000_17 x410001_17 x410002_17 (strOfNums y429) (x410004_17 ++ y432)).bind fun bt438 => (if bt438.1.toList = ([] : List UInt8) then (some (bt438.2 == 63)) else (none))) else (none))) = some r := by first | (rw [hy429]; with_reducible exact H) | (have H2_ := (Option.bind_some _ _).symm.trans H; rw [hy429]; with_reducible exact H2_) | (have H2_ := (Option.bind_some _ _).symm.trans H; with_reducible exact H2_) | with_reducible exact H | (rw [hy429]; exact H) | exact H
                                have Ny429 := Aside0.mk hy429
                                clear hy429
                                obtain ⟨y432, hy432⟩ : ∃ y_ : List (S31), y_ = (([(⟨(⟨#[97]⟩ : ByteArray), (⟨#[]⟩ : ByteArray)⟩ : S31), (⟨(⟨#[97]⟩ : ByteArray), (⟨#[]⟩ : ByteArray)⟩ : S31)] : List (S31))) := ⟨_, rfl⟩
                                replace H : (if x410004_17.length + y432.length < 4398046511104 then ((version_Write.f kj17 x410000_17 x410001_17 x410002_17 (strOfNums y429) (x410004_17 ++ y432)).bind fun bt438 => (if bt438.1.toList = ([] : List UInt8) then (some (bt438.2 == 63)) else (none))) else (none)) = some r := by first | (rw [hy432]; with_reducible exact H) | (have H2_ := (Option.bind_some _ _).symm.trans H; rw [hy432]; with_reducible exact H2_) | (have H2_ := (Option.bind_some _ _).symm.trans H; with_reducible exact H2_) | with_reducible exact H | (rw [hy432]; exact H) | exact H
                                have Ny432 := Aside0.mk hy432
                                clear hy432
                                by_cases c76 : x410004_17.length + y432.length < 4398046511104
                                · rw [if_pos c76] at H
                                  have LMc76 := Aside0.mk c76
                                  clear c76
                                  obtain ⟨y435, hy435⟩ : ∃ y_ : List (S31), y_ = (x410004_17 ++ y432) := ⟨_, rfl⟩
                                  replace H : ((version_Write.f kj17 x410000_17 x410001_17 x410002_17 (strOfNums y429) y435).bind fun bt438 => (if bt438.1.toList = ([] : List UInt8) then (some (bt438.2 == 63)) else (none))) = some r := by first | (rw [hy435]; with_reducible exact H) | (have H2_ := (Option.bind_some _ _).symm.trans H; rw [hy435]; with_reducible exact H2_) | (have H2_ := (Option.bind_some _ _).symm.trans H; with_reducible exact H2_) | with_reducible exact H | (rw [hy435]; exact H) | exact H
                                  have Ny435 := Aside0.mk hy435
                                  clear hy435
                                  replace H := Option.bind_eq_some_iff.mp H
                                  obtain ⟨⟨t438, t439⟩, A770, H⟩ := H
                                  replace H : (if t438.toList = ([] : List UInt8) then (some (t439 == 63)) else (none)) = some r := H
                                  have A77 := Aside0.mk A770
                                  clear A770
                                  by_cases c78 : t438.toList = ([] : List UInt8)
                                  · rw [if_pos c78] at H
                                    have c78b0 : (t438.toList == ([] : List UInt8)) = true := beq_iff_eq.mpr c78
                                    have c78b1 : (t438.toList != ([] : List UInt8)) = false := bne_eq_false_iff_eq.mpr c78
                                    clear c78
                                    obtain rfl := Option.some.inj H
                                    have hcz79_0 : wc.cell? ⟨gb409, 0, none⟩ = some (.string x410000_17) := (blk_cell BK409.out 0).trans rfl
                                    have hcz79_1 : wc.cell? ⟨gb409, 1, none⟩ = some (.int .i64 x410001_17) := (blk_cell BK409.out 1).trans rfl
                                    have hcz79_2 : wc.cell? ⟨gb409, 2, none⟩ = some (.bool x410002_17) := (blk_cell BK409.out 2).trans rfl
                                    have hcz79_3 : wc.cell? ⟨gb409, 3, none⟩ = some (.string x410003_17) := (blk_cell BK409.out 3).trans rfl
                                    have hcz79_4 : wc.cell? ⟨gb409, 4, none⟩ = some (u410004) := (blk_cell BK409.out 4).trans rfl
                                    have hfz79_0 := blk_frozen BK409.out 0
                                    have hfz79_1 := blk_frozen BK409.out 1
                                    have hfz79_2 := blk_frozen BK409.out 2
                                    have hfz79_3 := blk_frozen BK409.out 3
                                    have hfz79_4 := blk_frozen BK409.out 4
                                    obtain ⟨Ao80, co80, eo80⟩ := Kd.R_slice HO_410004.out
                                    subst eo80
                                    go_wp2_with (first | ((with_reducible refine gate_callee (f := 9) rfl ?_); refine goesL_ (some 46) rfl rfl Try.func9 (by kernel_rfl) rfl #[.agg #[.string x410000_17, .int .i64 x410001_17, .bool x410002_17, .string x410003_17, .slice Ao80 x410004_17.length co80]] rfl (by (try simp only [List.map_toArray, List.map_cons, List.map_nil]); first | done | rfl | (simp only [List.length_drop, List.length_take]; rfl)) ?_; (with_reducible refine (version_Write.calls kj17 x410000_17 x410001_17 x410002_17 x410003_17 _ _ x410004_17 t410 t411 _ ?side1 ?side2 A26.out).mono ?_); (case side1 => repeat (first | exact (Kd.R_reads' HO_410004.out).2.2 | (with_reducible refine Kd.C_alloc ?_ _) | (with_reducible refine Kd.C_drewN ?_ _) | (with_reducible refine Kd.C_drew ?_))); (case side2 => exact (Kd.R_reads' HO_410004.out).2.1); rintro e w81 ⟨rfl, hb⟩; refine ⟨_, rfl, ?_⟩; have n0_ := Aside0.mk (Kd.R_below (by (with_reducible repeat (first | apply Kd.R_alloc | apply Kd.R_drewN | apply Kd.R_drew)); exact HO_410004.out) hb); have n1_ := Aside0.mk (blk_below (g := gb409) (o := .cells #[.string x410000_17, .int .i64 x410001_17, .bool x410002_17, .string x410003_17, .slice Ao80 x410004_17.length co80] 24 (0, 0)) (by (with_reducible repeat (first | refine blk_drewN ?_ _ | refine blk_drew ?_ | refine blk_alloc ?_ _)); exact BK409.out) hb); have n2_ := Aside0.mk (below_step (by repeat (first | (with_reducible first | exact HB.out | apply below_alloc | apply pw_below_drewN | apply below_drew1 | refine below_set ?_ GE409.out) | exact HB.out)) hb); clear HO_410004; clear BK409; clear HB; have HO_410004 := n0_; have BK409 := n1_; have HB := n2_; clear n0_ n1_ n2_; (try clear hb); (try clear hb2); (try clear hk); (try clear hi)) | ((with_reducible refine gate_dst (N := 81) rfl ?_); refine Kd.R_make (Kd.int .u8) _ 5 rfl (N := 81) rfl 38 _ _ rfl 1025 rfl rfl Try.underlying38 (.int .u8 0) 1 info5 rfl (by decide) (by omega) 0 (ok := fun _ => True) (okp := fun _ => True) rfl (fun _ hk => hk) trivial (by omega) (by omega) (Below.refl _ _) (Nat.le_refl _) ?_; intro v430 w82 ho83 hb hg_ hnew_; clear hg_ hnew_; (first | rw [← Ny429.out] at ho83 | (simp only [Int.reduceToNat] at ho83; rw [← Ny429.out] at ho83)); have n0_ := Aside0.mk (Kd.R_below (by (with_reducible repeat (first | apply Kd.R_alloc | apply Kd.R_drewN | apply Kd.R_drew)); exact HO_410004.out) hb); have n1_ := Aside0.mk (Kd.R_lower ho83 (below_size (by repeat (first | (with_reducible first | exact HB.out | apply below_alloc | apply pw_below_drewN | apply below_drew1 | refine below_set ?_ GE409.out) | exact HB.out)))); have n2_ := Aside0.mk (blk_below (g := gb409) (o := .cells #[.string x410000_17, .int .i64 x410001_17, .bool x410002_17, .string x410003_17, .slice Ao80 x410004_17.length co80] 24 (0, 0)) (by (with_reducible repeat (first | refine blk_drewN ?_ _ | refine blk_drew ?_ | refine blk_alloc ?_ _)); exact BK409.out) hb); have n3_ := Aside0.mk (below_step (by repeat (first | (with_reducible first | exact HB.out | apply below_alloc | apply pw_below_drewN | apply below_drew1 | refine below_set ?_ GE409.out) | exact HB.out)) hb); clear HO_410004; clear BK409; clear HB; have HO_410004 := n0_; have HO431 := n1_; have BK409 := n2_; have HB := n3_; clear n0_ n1_ n2_ n3_; clear hb ho83; have hcv84 := own_string (P := Try.prog) Try.underlying38 Try.underlying5 Try.underlying9 (Kd.own_of_R HO431.out); have hcz85_0 : w82.cell? ⟨gb409, 0, none⟩ = some (.string x410000_17) := (blk_cell BK409.out 0).trans rfl; have hcz85_1 : w82.cell? ⟨gb409, 1, none⟩ = some (.int .i64 x410001_17) := (blk_cell BK409.out 1).trans rfl; have hcz85_2 : w82.cell? ⟨gb409, 2, none⟩ = some (.bool x410002_17) := (blk_cell BK409.out 2).trans rfl; have hcz85_3 : w82.cell? ⟨gb409, 3, none⟩ = some (.string x410003_17) := (blk_cell BK409.out 3).trans rfl; have hcz85_4 : w82.cell? ⟨gb409, 4, none⟩ = some (.slice Ao80 x410004_17.length co80) := (blk_cell BK409.out 4).trans rfl; have hfz85_0 := blk_frozen BK409.out 0; have hfz85_1 := blk_frozen BK409.out 1; have hfz85_2 := blk_frozen BK409.out 2; have hfz85_3 := blk_frozen BK409.out 3; have hfz85_4 := blk_frozen BK409.out 4) | ((with_reducible refine gate_dst (N := 88) rfl ?_); refine Kd.R_lit k31 _ 31 ?hg (N := 88) ?hd (xs := ([(⟨(⟨#[97]⟩ : ByteArray), (⟨#[]⟩ : ByteArray)⟩ : S31), (⟨(⟨#[97]⟩ : ByteArray), (⟨#[]⟩ : ByteArray)⟩ : S31)] : List (S31))) (inner := [.string (⟨#[97]⟩ : ByteArray), .string (⟨#[]⟩ : ByteArray), .string (⟨#[97]⟩ : ByteArray), .string (⟨#[]⟩ : ByteArray)]) (ok := fun _ => True) (okp := fun _ => True) ?hr ?hp (fun _ hk => hk) trivial (Below.refl _ _) (Nat.le_refl _) (by simp) ?_; (case hd => rfl); (case hg => rfl); (case hr => first | (go_simp; done) | (go_simp; rfl)); (case hp => exact (Reps.c2 (show Kd.M k31 _ _ _ (⟨(⟨#[97]⟩ : ByteArray), (⟨#[]⟩ : ByteArray)⟩ : S31) [.string (⟨#[97]⟩ : ByteArray), .string (⟨#[]⟩ : ByteArray)] from (k31_mkM _ _ _ (⟨(⟨#[97]⟩ : ByteArray), (⟨#[]⟩ : ByteArray)⟩ : S31) )) (Reps.c2 (show Kd.M k31 _ _ _ (⟨(⟨#[97]⟩ : ByteArray), (⟨#[]⟩ : ByteArray)⟩ : S31) [.string (⟨#[97]⟩ : ByteArray), .string (⟨#[]⟩ : ByteArray)] from (k31_mkM _ _ _ (⟨(⟨#[97]⟩ : ByteArray), (⟨#[]⟩ : ByteArray)⟩ : S31) )) (Reps.none _ _)))); intro v433 w86 ho87 hb hg_ hnew_; clear hg_ hnew_; (first | rw [← Ny432.out] at ho87 | (simp only [Int.reduceToNat] at ho87; rw [← Ny432.out] at ho87)); have n0_ := Aside0.mk (Kd.R_elder' (by (with_reducible repeat (first | apply Kd.R_alloc | apply Kd.R_drewN | apply Kd.R_drew)); exact (Kd.R_mono (Kd.R_far (p := ⟨gb409, 3, none⟩) (Kd.R_types HO_410004.out BK409.out (by decide)) (fun _ hk => hk.2) (.string (strOfNums y429))) (fun _ h_ => h_.1))) (Kd.R_base ho87) hb); have n1_ := Aside0.mk (Kd.R_below (by (with_reducible repeat (first | apply Kd.R_alloc | apply Kd.R_drewN | apply Kd.R_drew)); exact (Kd.R_mono (Kd.R_far (p := ⟨gb409, 3, none⟩) (Kd.R_types HO431.out BK409.out (by decide)) (fun _ hk => hk.2) (.string (strOfNums y429))) (fun _ h_ => h_.1))) hb); have n2_ := Aside0.mk (Kd.R_lower (Kd.R_new' ho87 (Kd.R_lt (by (with_reducible repeat (first | apply Kd.R_alloc | apply Kd.R_drewN | apply Kd.R_drew)); exact (Kd.R_mono (Kd.R_far (p := ⟨gb409, 3, none⟩) (Kd.R_types HO_410004.out BK409.out (by decide)) (fun _ hk => hk.2) (.string (strOfNums y429))) (fun _ h_ => h_.1))))) (below_size (by repeat (first | (with_reducible first | exact HB.out | apply below_alloc | apply pw_below_drewN | apply below_drew1 | refine below_set ?_ GE409.out) | exact HB.out)))); have n3_ := Aside0.mk (blk_below (g := gb409) (o := .cells #[.string x410000_17, .int .i64 x410001_17, .bool x410002_17, .string (strOfNums y429), .slice Ao80 x410004_17.length co80] 24 (0, 0)) (by (with_reducible repeat (first | refine blk_drewN ?_ _ | refine blk_drew ?_ | refine blk_alloc ?_ _)); refine blk_put (cs := #[.string x410000_17, .int .i64 x410001_17, .bool x410002_17, .string x410003_17, .slice Ao80 x410004_17.length co80]) ?_ 3 _ rfl; (with_reducible repeat (first | refine blk_drewN ?_ _ | refine blk_drew ?_ | refine blk_alloc ?_ _)); exact BK409.out) hb); have n4_ := Aside0.mk (below_step (by repeat (first | (with_reducible first | exact HB.out | apply below_alloc | apply pw_below_drewN | apply below_drew1 | refine below_set ?_ GE409.out) | exact HB.out)) hb); clear HO_410004; clear HO431; clear BK409; clear HB; have HO_410004 := n0_; have HO431 := n1_; have HO434 := n2_; have BK409 := n3_; have HB := n4_; clear n0_ n1_ n2_ n3_ n4_; clear hb ho87; obtain ⟨Ao89, co89, eo89⟩ := Kd.R_slice HO434.out; subst eo89) | ((with_reducible refine gate_builtin (b := .append) (xs := #[.tmp 85, .tmp 88]) rfl ?_); at_builtin; refine Kd.R_append_rows k31 (w0 := w) w.heap.size rfl (.tmp 85) (.tmp 88) 22 31 (.agg #[(.string ⟨#[]⟩), (.string ⟨#[]⟩)]) 32 rfl Try.underlying22 info31 rfl (by decide) (by omega) (.slice Ao80 x410004_17.length co80) x410004_17 y432 _ _ _ (fun k_ => some k_ ≠ (.slice Ao89 y432.length co89 : Value).ownBlock) (fun _ => False) rfl rfl ?aO ?aR (fun _ _ h => h) (fun _ h => h.elim) ?aF ?aB ?aS ?aL ?_; (case aR => repeat (first | exact (Kd.R_reads' HO434.out).2.2 | (with_reducible refine Kd.C_alloc ?_ _) | (with_reducible refine Kd.C_drewN ?_ _) | (with_reducible refine Kd.C_drew ?_))); (case aB => exact (by repeat (first | (with_reducible first | exact HB.out | apply below_alloc | apply pw_below_drewN | apply below_drew1 | refine below_set ?_ GE409.out) | exact HB.out))); (case aF => exact (fun k_ hk => Kd.fresh' (Kd.R_lt (by (with_reducible repeat (first | apply Kd.R_alloc | apply Kd.R_drewN | apply Kd.R_drew)); exact HO434.out)) k_ hk)); (case aO => exact (by (with_reducible repeat (first | apply Kd.R_alloc | apply Kd.R_drewN | apply Kd.R_drew)); exact Kd.R_mono HO_410004.out (fun _ hk => hk.2))); (case aS => exact (below_size (by repeat (first | (with_reducible first | exact HB.out | apply below_alloc | apply pw_below_drewN | apply below_drew1 | refine below_set ?_ GE409.out) | exact HB.out)))); (case aL => have := LMc76.out; omega); intro v436 w88 ho hb hg hat; rw [← Ny435.out] at ho; have n0_ := Aside0.mk (blk_grown (g := gb409) (o := .cells #[.string x410000_17, .int .i64 x410001_17, .bool x410002_17, .string (strOfNums y429), .slice Ao80 x410004_17.length co80] 24 (0, 0)) (by (with_reducible repeat (first | refine blk_drewN ?_ _ | refine blk_drew ?_ | refine blk_alloc ?_ _)); exact BK409.out) hg (Kd.R_ne HO_410004.out BK409.out (by decide))); have n1_ := Aside0.mk (Kd.R_over' (by (with_reducible repeat (first | apply Kd.R_alloc | apply Kd.R_drewN | apply Kd.R_drew)); exact HO431.out) (Kd.R_typed (by (with_reducible repeat (first | apply Kd.R_alloc | apply Kd.R_drewN | apply Kd.R_drew)); exact HO_410004.out)) (by decide) hg); have n2_ := Aside0.mk (Kd.R_after (ok := (fun _ => True)) (by (with_reducible repeat (first | apply Kd.R_alloc | apply Kd.R_drewN | apply Kd.R_drew)); exact HO434.out) hg hat); have n3_ := Aside0.mk (hb); have n4_ := Aside0.mk (ho); clear BK409; clear HO431; clear HO434; clear HB; clear HO_410004; have BK409 := n0_; have HO431 := n1_; have HO434 := n2_; have HB := n3_; have HO437 := n4_; clear n0_ n1_ n2_ n3_ n4_; clear ho hb hg hat; obtain ⟨Ao90, co90, eo90⟩ := Kd.R_slice HO437.out; subst eo90; have hcz91_0 : w88.cell? ⟨gb409, 0, none⟩ = some (.string x410000_17) := (blk_cell BK409.out 0).trans rfl; have hcz91_1 : w88.cell? ⟨gb409, 1, none⟩ = some (.int .i64 x410001_17) := (blk_cell BK409.out 1).trans rfl; have hcz91_2 : w88.cell? ⟨gb409, 2, none⟩ = some (.bool x410002_17) := (blk_cell BK409.out 2).trans rfl; have hcz91_3 : w88.cell? ⟨gb409, 3, none⟩ = some (.string (strOfNums y429)) := (blk_cell BK409.out 3).trans rfl; have hcz91_4 : w88.cell? ⟨gb409, 4, none⟩ = some (.slice Ao80 x410004_17.length co80) := (blk_cell BK409.out 4).trans rfl; have hfz91_0 := blk_frozen BK409.out 0; have hfz91_1 := blk_frozen BK409.out 1; have hfz91_2 := blk_frozen BK409.out 2; have hfz91_3 := blk_frozen BK409.out 3; have hfz91_4 := blk_frozen BK409.out 4) | ((with_reducible refine gate_callee (f := 9) rfl ?_); refine goesL_ (some 109) rfl rfl Try.func9 (by kernel_rfl) rfl #[.agg #[.string x410000_17, .int .i64 x410001_17, .bool x410002_17, .string (strOfNums y429), .slice Ao90 y435.length co90]] rfl (by (try simp only [List.map_toArray, List.map_cons, List.map_nil]); first | done | rfl | (simp only [List.length_drop, List.length_take]; rfl)) ?_; (with_reducible refine (version_Write.calls kj17 x410000_17 x410001_17 x410002_17 (strOfNums y429) _ _ y435 t438 t439 _ ?side1 ?side2 A77.out).mono ?_); (case side1 => refine (Kd.R_reads' (e := 31) (base := w.heap.size) (ok := fun k_ => some k_ ≠ (.slice Ao89 y432.length co89 : Value).ownBlock) (n := y435.length) (c := co90) ?_).2.2; exact (by (with_reducible repeat (first | apply Kd.R_alloc | apply Kd.R_drewN | apply Kd.R_drew)); exact (Kd.R_mono (Kd.R_far (p := ⟨gb409, 4, none⟩) (Kd.R_types HO437.out BK409.out (by decide)) (fun _ hk => hk.2) (.slice Ao90 y435.length co90)) (fun _ h_ => h_.1)))); (case side2 => exact (Kd.R_reads' HO437.out).2.1); rintro e w92 ⟨rfl, hb⟩; refine ⟨_, rfl, ?_⟩; have n0_ := Aside0.mk (Kd.R_below (by (with_reducible repeat (first | apply Kd.R_alloc | apply Kd.R_drewN | apply Kd.R_drew)); exact (Kd.R_mono (Kd.R_far (p := ⟨gb409, 4, none⟩) (Kd.R_types HO431.out BK409.out (by decide)) (fun _ hk => hk.2) (.slice Ao90 y435.length co90)) (fun _ h_ => h_.1))) hb); have n1_ := Aside0.mk (Kd.R_below (by (with_reducible repeat (first | apply Kd.R_alloc | apply Kd.R_drewN | apply Kd.R_drew)); exact (Kd.R_mono (Kd.R_far (p := ⟨gb409, 4, none⟩) (Kd.R_types HO434.out BK409.out (by decide)) (fun _ hk => hk.2) (.slice Ao90 y435.length co90)) (fun _ h_ => h_.1))) hb); have n2_ := Aside0.mk (Kd.R_below (by (with_reducible repeat (first | apply Kd.R_alloc | apply Kd.R_drewN | apply Kd.R_drew)); exact (Kd.R_mono (Kd.R_far (p := ⟨gb409, 4, none⟩) (Kd.R_types HO437.out BK409.out (by decide)) (fun _ hk => hk.2) (.slice Ao90 y435.length co90)) (fun _ h_ => h_.1))) hb); have n3_ := Aside0.mk (blk_below (g := gb409) (o := .cells #[.string x410000_17, .int .i64 x410001_17, .bool x410002_17, .string (strOfNums y429), .slice Ao90 y435.length co90] 24 (0, 0)) (by (with_reducible repeat (first | refine blk_drewN ?_ _ | refine blk_drew ?_ | refine blk_alloc ?_ _)); refine blk_put (cs := #[.string x410000_17, .int .i64 x410001_17, .bool x410002_17, .string (strOfNums y429), .slice Ao80 x410004_17.length co80]) ?_ 4 _ rfl; (with_reducible repeat (first | refine blk_drewN ?_ _ | refine blk_drew ?_ | refine blk_alloc ?_ _)); exact BK409.out) hb); have n4_ := Aside0.mk (below_step (by repeat (first | (with_reducible first | exact HB.out | apply below_alloc | apply pw_below_drewN | apply below_drew1 | refine below_set ?_ GE409.out) | exact HB.out)) hb); clear HO431; clear HO434; clear HO437; clear BK409; clear HB; have HO431 := n0_; have HO434 := n1_; have HO437 := n2_; have BK409 := n3_; have HB := n4_; clear n0_ n1_ n2_ n3_ n4_; (try clear hb); (try clear hb2); (try clear hk); (try clear hi)))
                                    go_ret
                                    exact ⟨by first | rfl | (simp [errW_none, errW_some] <;> rfl) | (simp [*, errW_none, errW_some] <;> rfl), by repeat (first | (with_reducible first | exact HB.out | apply below_alloc | apply pw_below_drewN | apply below_drew1 | refine below_set ?_ GE409.out) | exact HB.out)⟩
                                  · rw [if_neg c78] at H
                                    exact absurd H (by simp)
                                · rw [if_neg c76] at H
                                  exact absurd H (by simp)
                              · rw [if_neg c75] at H
                                exact absurd H (by simp)
                            · rw [if_neg c74] at H
                              have c74b0 : ((Go.bits .and .i64 a4 7) == 4) = false := beq_eq_false_iff_ne.mpr c74
                              have c74b1 : ((Go.bits .and .i64 a4 7) != 4) = true := bne_iff_ne.mpr c74
                              by_cases c93 : (Go.bits .and .i64 a4 7) = 5
                              · rw [if_pos c93] at H
                                have c93b0 : ((Go.bits .and .i64 a4 7) == 5) = true := beq_iff_eq.mpr c93
                                have c93b1 : ((Go.bits .and .i64 a4 7) != 5) = false := bne_eq_false_iff_eq.mpr c93
                                clear c93
                                obtain ⟨y440, hy440⟩ : ∃ y_ : List (S31), y_ = (([(⟨(⟨#[97]⟩ : ByteArray), (⟨#[]⟩ : ByteArray)⟩ : S31), (⟨(⟨#[97]⟩ : ByteArray), (⟨#[]⟩ : ByteArray)⟩ : S31)] : List (S31))) := ⟨_, rfl⟩
                                replace H : (if x410004_17.length + y440.length < 4398046511104 then ((version_Write.f kj17 x410000_17 x410001_17 x410002_17 x410003_17 (x410004_17 ++ y440)).bind fun bt446 => (if bt446.1.toList = ([] : List UInt8) then (some (bt446.2 == 62)) else (none))) else (none)) = some r := by first | (rw [hy440]; with_reducible exact H) | (have H2_ := (Option.bind_some _ _).symm.trans H; rw [hy440]; with_reducible exact H2_) | (have H2_ := (Option.bind_some _ _).symm.trans H; with_reducible exact H2_) | with_reducible exact H | (rw [hy440]; exact H) | exact H
                                have Ny440 := Aside0.mk hy440
                                clear hy440
                                by_cases c94 : x410004_17.length + y440.length < 4398046511104
                                · rw [if_pos c94] at H
                                  have LMc94 := Aside0.mk c94
                                  clear c94
                                  obtain ⟨y443, hy443⟩ : ∃ y_ : List (S31), y_ = (x410004_17 ++ y440) := ⟨_, rfl⟩
                                  replace H : ((version_Write.f kj17 x410000_17 x410001_17 x410002_17 x410003_17 y443).bind fun bt446 => (if bt446.1.toList = ([] : List UInt8) then (some (bt446.2 == 62)) else (none))) = some r := by first | (rw [hy443]; with_reducible exact H) | (have H2_ := (Option.bind_some _ _).symm.trans H; rw [hy443]; with_reducible exact H2_) | (have H2_ := (Option.bind_some _ _).symm.trans H; with_reducible exact H2_) | with_reducible exact H | (rw [hy443]; exact H) | exact H
                                  have Ny443 := Aside0.mk hy443
                                  clear hy443
                                  replace H := Option.bind_eq_some_iff.mp H
                                  obtain ⟨⟨t446, t447⟩, A950, H⟩ := H
                                  replace H : (if t446.toList = ([] : List UInt8) then (some (t447 == 62)) else (none)) = some r := H
                                  have A95 := Aside0.mk A950
                                  clear A950
                                  by_cases c96 : t446.toList = ([] : List UInt8)
                                  · rw [if_pos c96] at H
                                    have c96b0 : (t446.toList == ([] : List UInt8)) = true := beq_iff_eq.mpr c96
                                    have c96b1 : (t446.toList != ([] : List UInt8)) = false := bne_eq_false_iff_eq.mpr c96
                                    clear c96
                                    obtain rfl := Option.some.inj H
                                    have hcz97_0 : wc.cell? ⟨gb409, 0, none⟩ = some (.string x410000_17) := (blk_cell BK409.out 0).trans rfl
                                    have hcz97_1 : wc.cell? ⟨gb409, 1, none⟩ = some (.int .i64 x410001_17) := (blk_cell BK409.out 1).trans rfl
                                    have hcz97_2 : wc.cell? ⟨gb409, 2, none⟩ = some (.bool x410002_17) := (blk_cell BK409.out 2).trans rfl
                                    have hcz97_3 : wc.cell? ⟨gb409, 3, none⟩ = some (.string x410003_17) := (blk_cell BK409.out 3).trans rfl
                                    have hcz97_4 : wc.cell? ⟨gb409, 4, none⟩ = some (u410004) := (blk_cell BK409.out 4).trans rfl
                                    have hfz97_0 := blk_frozen BK409.out 0
                                    have hfz97_1 := blk_frozen BK409.out 1
                                    have hfz97_2 := blk_frozen BK409.out 2
                                    have hfz97_3 := blk_frozen BK409.out 3
                                    have hfz97_4 := blk_frozen BK409.out 4
                                    obtain ⟨Ao98, co98, eo98⟩ := Kd.R_slice HO_410004.out
                                    subst eo98
                                    go_wp2_with (first | ((with_reducible refine gate_callee (f := 9) rfl ?_); refine goesL_ (some 46) rfl rfl Try.func9 (by kernel_rfl) rfl #[.agg #[.string x410000_17, .int .i64 x410001_17, .bool x410002_17, .string x410003_17, .slice Ao98 x410004_17.length co98]] rfl (by (try simp only [List.map_toArray, List.map_cons, List.map_nil]); first | done | rfl | (simp only [List.length_drop, List.length_take]; rfl)) ?_; (with_reducible refine (version_Write.calls kj17 x410000_17 x410001_17 x410002_17 x410003_17 _ _ x410004_17 t410 t411 _ ?side1 ?side2 A26.out).mono ?_); (case side1 => repeat (first | exact (Kd.R_reads' HO_410004.out).2.2 | (with_reducible refine Kd.C_alloc ?_ _) | (with_reducible refine Kd.C_drewN ?_ _) | (with_reducible refine Kd.C_drew ?_))); (case side2 => exact (Kd.R_reads' HO_410004.out).2.1); rintro e w99 ⟨rfl, hb⟩; refine ⟨_, rfl, ?_⟩; have n0_ := Aside0.mk (Kd.R_below (by (with_reducible repeat (first | apply Kd.R_alloc | apply Kd.R_drewN | apply Kd.R_drew)); exact HO_410004.out) hb); have n1_ := Aside0.mk (blk_below (g := gb409) (o := .cells #[.string x410000_17, .int .i64 x410001_17, .bool x410002_17, .string x410003_17, .slice Ao98 x410004_17.length co98] 24 (0, 0)) (by (with_reducible repeat (first | refine blk_drewN ?_ _ | refine blk_drew ?_ | refine blk_alloc ?_ _)); exact BK409.out) hb); have n2_ := Aside0.mk (below_step (by repeat (first | (with_reducible first | exact HB.out | apply below_alloc | apply pw_below_drewN | apply below_drew1 | refine below_set ?_ GE409.out) | exact HB.out)) hb); clear HO_410004; clear BK409; clear HB; have HO_410004 := n0_; have BK409 := n1_; have HB := n2_; clear n0_ n1_ n2_; (try clear hb); (try clear hb2); (try clear hk); (try clear hi); have hcz100_0 : w99.cell? ⟨gb409, 0, none⟩ = some (.string x410000_17) := (blk_cell BK409.out 0).trans rfl; have hcz100_1 : w99.cell? ⟨gb409, 1, none⟩ = some (.int .i64 x410001_17) := (blk_cell BK409.out 1).trans rfl; have hcz100_2 : w99.cell? ⟨gb409, 2, none⟩ = some (.bool x410002_17) := (blk_cell BK409.out 2).trans rfl; have hcz100_3 : w99.cell? ⟨gb409, 3, none⟩ = some (.string x410003_17) := (blk_cell BK409.out 3).trans rfl; have hcz100_4 : w99.cell? ⟨gb409, 4, none⟩ = some (.slice Ao98 x410004_17.length co98) := (blk_cell BK409.out 4).trans rfl; have hfz100_0 := blk_frozen BK409.out 0; have hfz100_1 := blk_frozen BK409.out 1; have hfz100_2 := blk_frozen BK409.out 2; have hfz100_3 := blk_frozen BK409.out 3; have hfz100_4 := blk_frozen BK409.out 4) | ((with_reducible refine gate_dst (N := 97) rfl ?_); refine Kd.R_lit k31 _ 31 ?hg (N := 97) ?hd (xs := ([(⟨(⟨#[97]⟩ : ByteArray), (⟨#[]⟩ : ByteArray)⟩ : S31), (⟨(⟨#[97]⟩ : ByteArray), (⟨#[]⟩ : ByteArray)⟩ : S31)] : List (S31))) (inner := [.string (⟨#[97]⟩ : ByteArray), .string (⟨#[]⟩ : ByteArray), .string (⟨#[97]⟩ : ByteArray), .string (⟨#[]⟩ : ByteArray)]) (ok := fun _ => True) (okp := fun _ => True) ?hr ?hp (fun _ hk => hk) trivial (Below.refl _ _) (Nat.le_refl _) (by simp) ?_; (case hd => rfl); (case hg => rfl); (case hr => first | (go_simp; done) | (go_simp; rfl)); (case hp => exact (Reps.c2 (show Kd.M k31 _ _ _ (⟨(⟨#[97]⟩ : ByteArray), (⟨#[]⟩ : ByteArray)⟩ : S31) [.string (⟨#[97]⟩ : ByteArray), .string (⟨#[]⟩ : ByteArray)] from (k31_mkM _ _ _ (⟨(⟨#[97]⟩ : ByteArray), (⟨#[]⟩ : ByteArray)⟩ : S31) )) (Reps.c2 (show Kd.M k31 _ _ _ (⟨(⟨#[97]⟩ : ByteArray), (⟨#[]⟩ : ByteArray)⟩ : S31) [.string (⟨#[97]⟩ : ByteArray), .string (⟨#[]⟩ : ByteArray)] from (k31_mkM _ _ _ (⟨(⟨#[97]⟩ : ByteArray), (⟨#[]⟩ : ByteArray)⟩ : S31) )) (Reps.none _ _)))); intro v441 w101 ho102 hb hg_ hnew_; clear hg_ hnew_; (first | rw [← Ny440.out] at ho102 | (simp only [Int.reduceToNat] at ho102; rw [← Ny440.out] at ho102)); have n0_ := Aside0.mk (Kd.R_elder' (by (with_reducible repeat (first | apply Kd.R_alloc | apply Kd.R_drewN | apply Kd.R_drew)); exact HO_410004.out) (Kd.R_base ho102) hb); have n1_ := Aside0.mk (Kd.R_lower (Kd.R_new' ho102 (Kd.R_lt (by (with_reducible repeat (first | apply Kd.R_alloc | apply Kd.R_drewN | apply Kd.R_drew)); exact HO_410004.out))) (below_size (by repeat (first | (with_reducible first | exact HB.out | apply below_alloc | apply pw_below_drewN | apply below_drew1 | refine below_set ?_ GE409.out) | exact HB.out)))); have n2_ := Aside0.mk (blk_below (g := gb409) (o := .cells #[.string x410000_17, .int .i64 x410001_17, .bool x410002_17, .string x410003_17, .slice Ao98 x410004_17.length co98] 24 (0, 0)) (by (with_reducible repeat (first | refine blk_drewN ?_ _ | refine blk_drew ?_ | refine blk_alloc ?_ _)); exact BK409.out) hb); have n3_ := Aside0.mk (below_step (by repeat (first | (with_reducible first | exact HB.out | apply below_alloc | apply pw_below_drewN | apply below_drew1 | refine below_set ?_ GE409.out) | exact HB.out)) hb); clear HO_410004; clear BK409; clear HB; have HO_410004 := n0_; have HO442 := n1_; have BK409 := n2_; have HB := n3_; clear n0_ n1_ n2_ n3_; clear hb ho102; obtain ⟨Ao104, co104, eo104⟩ := Kd.R_slice HO442.out; subst eo104) | ((with_reducible refine gate_builtin (b := .append) (xs := #[.tmp 94, .tmp 97]) rfl ?_); at_builtin; refine Kd.R_append_rows k31 (w0 := w) w.heap.size rfl (.tmp 94) (.tmp 97) 22 31 (.agg #[(.string ⟨#[]⟩), (.string ⟨#[]⟩)]) 32 rfl Try.underlying22 info31 rfl (by decide) (by omega) (.slice Ao98 x410004_17.length co98) x410004_17 y440 _ _ _ (fun k_ => some k_ ≠ (.slice Ao104 y440.length co104 : Value).ownBlock) (fun _ => False) rfl rfl ?aO ?aR (fun _ _ h => h) (fun _ h => h.elim) ?aF ?aB ?aS ?aL ?_; (case aR => repeat (first | exact (Kd.R_reads' HO442.out).2.2 | (with_reducible refine Kd.C_alloc ?_ _) | (with_reducible refine Kd.C_drewN ?_ _) | (with_reducible refine Kd.C_drew ?_))); (case aB => exact (by repeat (first | (with_reducible first | exact HB.out | apply below_alloc | apply pw_below_drewN | apply below_drew1 | refine below_set ?_ GE409.out) | exact HB.out))); (case aF => exact (fun k_ hk => Kd.fresh' (Kd.R_lt (by (with_reducible repeat (first | apply Kd.R_alloc | apply Kd.R_drewN | apply Kd.R_drew)); exact HO442.out)) k_ hk)); (case aO => exact (by (with_reducible repeat (first | apply Kd.R_alloc | apply Kd.R_drewN | apply Kd.R_drew)); exact Kd.R_mono HO_410004.out (fun _ hk => hk.2))); (case aS => exact (below_size (by repeat (first | (with_reducible first | exact HB.out | apply below_alloc | apply pw_below_drewN | apply below_drew1 | refine below_set ?_ GE409.out) | exact HB.out)))); (case aL => have := LMc94.out; omega); intro v444 w103 ho hb hg hat; rw [← Ny443.out] at ho; have n0_ := Aside0.mk (blk_grown (g := gb409) (o := .cells #[.string x410000_17, .int .i64 x410001_17, .bool x410002_17, .string x410003_17, .slice Ao98 x410004_17.length co98] 24 (0, 0)) (by (with_reducible repeat (first | refine blk_drewN ?_ _ | refine blk_drew ?_ | refine blk_alloc ?_ _)); exact BK409.out) hg (Kd.R_ne HO_410004.out BK409.out (by decide))); have n1_ := Aside0.mk (Kd.R_after (ok := (fun _ => True)) (by (with_reducible repeat (first | apply Kd.R_alloc | apply Kd.R_drewN | apply Kd.R_drew)); exact HO442.out) hg hat); have n2_ := Aside0.mk (hb); have n3_ := Aside0.mk (ho); clear BK409; clear HO442; clear HB; clear HO_410004; have BK409 := n0_; have HO442 := n1_; have HB := n2_; have HO445 := n3_; clear n0_ n1_ n2_ n3_; clear ho hb hg hat; obtain ⟨Ao105, co105, eo105⟩ := Kd.R_slice HO445.out; subst eo105; have hcz106_0 : w103.cell? ⟨gb409, 0, none⟩ = some (.string x410000_17) := (blk_cell BK409.out 0).trans rfl; have hcz106_1 : w103.cell? ⟨gb409, 1, none⟩ = some (.int .i64 x410001_17) := (blk_cell BK409.out 1).trans rfl; have hcz106_2 : w103.cell? ⟨gb409, 2, none⟩ = some (.bool x410002_17) := (blk_cell BK409.out 2).trans rfl; have hcz106_3 : w103.cell? ⟨gb409, 3, none⟩ = some (.string x410003_17) := (blk_cell BK409.out 3).trans rfl; have hcz106_4 : w103.cell? ⟨gb409, 4, none⟩ = some (.slice Ao98 x410004_17.length co98) := (blk_cell BK409.out 4).trans rfl; have hfz106_0 := blk_frozen BK409.out 0; have hfz106_1 := blk_frozen BK409.out 1; have hfz106_2 := blk_frozen BK409.out 2; have hfz106_3 := blk_frozen BK409.out 3; have hfz106_4 := blk_frozen BK409.out 4) | ((with_reducible refine gate_callee (f := 9) rfl ?_); refine goesL_ (some 109) rfl rfl Try.func9 (by kernel_rfl) rfl #[.agg #[.string x410000_17, .int .i64 x410001_17, .bool x410002_17, .string x410003_17, .slice Ao105 y443.length co105]] rfl (by (try simp only [List.map_toArray, List.map_cons, List.map_nil]); first | done | rfl | (simp only [List.length_drop, List.length_take]; rfl)) ?_; (with_reducible refine (version_Write.calls kj17 x410000_17 x410001_17 x410002_17 x410003_17 _ _ y443 t446 t447 _ ?side1 ?side2 A95.out).mono ?_); (case side1 => refine (Kd.R_reads' (e := 31) (base := w.heap.size) (ok := fun k_ => some k_ ≠ (.slice Ao104 y440.length co104 : Value).ownBlock) (n := y443.length) (c := co105) ?_).2.2; exact (by (with_reducible repeat (first | apply Kd.R_alloc | apply Kd.R_drewN | apply Kd.R_drew)); exact (Kd.R_mono (Kd.R_far (p := ⟨gb409, 4, none⟩) (Kd.R_types HO445.out BK409.out (by decide)) (fun _ hk => hk.2) (.slice Ao105 y443.length co105)) (fun _ h_ => h_.1)))); (case side2 => exact (Kd.R_reads' HO445.out).2.1); rintro e w107 ⟨rfl, hb⟩; refine ⟨_, rfl, ?_⟩; have n0_ := Aside0.mk (Kd.R_below (by (with_reducible repeat (first | apply Kd.R_alloc | apply Kd.R_drewN | apply Kd.R_drew)); exact (Kd.R_mono (Kd.R_far (p := ⟨gb409, 4, none⟩) (Kd.R_types HO442.out BK409.out (by decide)) (fun _ hk => hk.2) (.slice Ao105 y443.length co105)) (fun _ h_ => h_.1))) hb); have n1_ := Aside0.mk (Kd.R_below (by (with_reducible repeat (first | apply Kd.R_alloc | apply Kd.R_drewN | apply Kd.R_drew)); exact (Kd.R_mono (Kd.R_far (p := ⟨gb409, 4, none⟩) (Kd.R_types HO445.out BK409.out (by decide)) (fun _ hk => hk.2) (.slice Ao105 y443.length co105)) (fun _ h_ => h_.1))) hb); have n2_ := Aside0.mk (blk_below (g := gb409) (o := .cells #[.string x410000_17, .int .i64 x410001_17, .bool x410002_17, .string x410003_17, .slice Ao105 y443.length co105] 24 (0, 0)) (by (with_reducible repeat (first | refine blk_drewN ?_ _ | refine blk_drew ?_ | refine blk_alloc ?_ _)); refine blk_put (cs := #[.string x410000_17, .int .i64 x410001_17, .bool x410002_17, .string x410003_17, .slice Ao98 x410004_17.length co98]) ?_ 4 _ rfl; (with_reducible repeat (first | refine blk_drewN ?_ _ | refine blk_drew ?_ | refine blk_alloc ?_ _)); exact BK409.out) hb); have n3_ := Aside0.mk (below_step (by repeat (first | (with_reducible first | exact HB.out | apply below_alloc | apply pw_below_drewN | apply below_drew1 | refine below_set ?_ GE409.out) | exact HB.out)) hb); clear HO442; clear HO445; clear BK409; clear HB; have HO442 := n0_; have HO445 := n1_; have BK409 := n2_; have HB := n3_; clear n0_ n1_ n2_ n3_; (try clear hb); (try clear hb2); (try clear hk); (try clear hi)))
                                    go_ret
                                    exact ⟨by first | rfl | (simp [errW_none, errW_some] <;> rfl) | (simp [*, errW_none, errW_some] <;> rfl), by repeat (first | (with_reducible first | exact HB.out | apply below_alloc | apply pw_below_drewN | apply below_drew1 | refine below_set ?_ GE409.out) | exact HB.out)⟩
                                  · rw [if_neg c96] at H
                                    exact absurd H (by simp)
                                · rw [if_neg c94] at H
                                  exact absurd H (by simp)
                              · rw [if_neg c93] at H
                                have c93b0 : ((Go.bits .and .i64 a4 7) == 5) = false := beq_eq_false_iff_ne.mpr c93
                                have c93b1 : ((Go.bits .and .i64 a4 7) != 5) = true := bne_iff_ne.mpr c93
                                by_cases c108 : (Go.bits .and .i64 a4 7) = 6
                                · rw [if_pos c108] at H
                                  have c108b0 : ((Go.bits .and .i64 a4 7) == 6) = true := beq_iff_eq.mpr c108
                                  have c108b1 : ((Go.bits .and .i64 a4 7) != 6) = false := bne_eq_false_iff_eq.mpr c108
                                  clear c108
                                  obtain ⟨y448, hy448⟩ : ∃ y_ : List (S31), y_ = (([(⟨(⟨#[97]⟩ : ByteArray), (⟨#[]⟩ : ByteArray)⟩ : S31)] : List (S31))) := ⟨_, rfl⟩
                                  replace H : ((version_Write.f kj17 x410000_17 x410001_17 true (⟨#[120]⟩ : ByteArray) y448).bind fun bt451 => (if bt451.1.toList = ([] : List UInt8) then (some (bt451.2 == 63)) else (none))) = some r := by first | (rw [hy448]; with_reducible exact H) | (have H2_ := (Option.bind_some _ _).symm.trans H; rw [hy448]; with_reducible exact H2_) | (have H2_ := (Option.bind_some _ _).symm.trans H; with_reducible exact H2_) | with_reducible exact H | (rw [hy448]; exact H) | exact H
                                  have Ny448 := Aside0.mk hy448
                                  clear hy448
                                  replace H := Option.bind_eq_some_iff.mp H
                                  obtain ⟨⟨t451, t452⟩, A1090, H⟩ := H
                                  replace H : (if t451.toList = ([] : List UInt8) then (some (t452 == 63)) else (none)) = some r := H
                                  have A109 := Aside0.mk A1090
                                  clear A1090
                                  by_cases c110 : t451.toList = ([] : List UInt8)
                                  · rw [if_pos c110] at H
                                    have c110b0 : (t451.toList == ([] : List UInt8)) = true := beq_iff_eq.mpr c110
                                    have c110b1 : (t451.toList != ([] : List UInt8)) = false := bne_eq_false_iff_eq.mpr c110
                                    clear c110
                                    obtain rfl := Option.some.inj H
                                    have hcz111_0 : wc.cell? ⟨gb409, 0, none⟩ = some (.string x410000_17) := (blk_cell BK409.out 0).trans rfl
                                    have hcz111_1 : wc.cell? ⟨gb409, 1, none⟩ = some (.int .i64 x410001_17) := (blk_cell BK409.out 1).trans rfl
                                    have hcz111_2 : wc.cell? ⟨gb409, 2, none⟩ = some (.bool x410002_17) := (blk_cell BK409.out 2).trans rfl
                                    have hcz111_3 : wc.cell? ⟨gb409, 3, none⟩ = some (.string x410003_17) := (blk_cell BK409.out 3).trans rfl
                                    have hcz111_4 : wc.cell? ⟨gb409, 4, none⟩ = some (u410004) := (blk_cell BK409.out 4).trans rfl
                                    have hfz111_0 := blk_frozen BK409.out 0
                                    have hfz111_1 := blk_frozen BK409.out 1
                                    have hfz111_2 := blk_frozen BK409.out 2
                                    have hfz111_3 := blk_frozen BK409.out 3
                                    have hfz111_4 := blk_frozen BK409.out 4
                                    obtain ⟨Ao112, co112, eo112⟩ := Kd.R_slice HO_410004.out
                                    subst eo112
                                    go_wp2_with (first | ((with_reducible refine gate_callee (f := 9) rfl ?_); refine goesL_ (some 46) rfl rfl Try.func9 (by kernel_rfl) rfl #[.agg #[.string x410000_17, .int .i64 x410001_17, .bool x410002_17, .string x410003_17, .slice Ao112 x410004_17.length co112]] rfl (by (try simp only [List.map_toArray, List.map_cons, List.map_nil]); first | done | rfl | (simp only [List.length_drop, List.length_take]; rfl)) ?_; (with_reducible refine (version_Write.calls kj17 x410000_17 x410001_17 x410002_17 x410003_17 _ _ x410004_17 t410 t411 _ ?side1 ?side2 A26.out).mono ?_); (case side1 => repeat (first | exact (Kd.R_reads' HO_410004.out).2.2 | (with_reducible refine Kd.C_alloc ?_ _) | (with_reducible refine Kd.C_drewN ?_ _) | (with_reducible refine Kd.C_drew ?_))); (case side2 => exact (Kd.R_reads' HO_410004.out).2.1); rintro e w113 ⟨rfl, hb⟩; refine ⟨_, rfl, ?_⟩; have n0_ := Aside0.mk (Kd.R_below (by (with_reducible repeat (first | apply Kd.R_alloc | apply Kd.R_drewN | apply Kd.R_drew)); exact HO_410004.out) hb); have n1_ := Aside0.mk (blk_below (g := gb409) (o := .cells #[.string x410000_17, .int .i64 x410001_17, .bool x410002_17, .string x410003_17, .slice Ao112 x410004_17.length co112] 24 (0, 0)) (by (with_reducible repeat (first | refine blk_drewN ?_ _ | refine blk_drew ?_ | refine blk_alloc ?_ _)); exact BK409.out) hb); have n2_ := Aside0.mk (below_step (by repeat (first | (with_reducible first | exact HB.out | apply below_alloc | apply pw_below_drewN | apply below_drew1 | refine below_set ?_ GE409.out) | exact HB.out)) hb); clear HO_410004; clear BK409; clear HB; have HO_410004 := n0_; have BK409 := n1_; have HB := n2_; clear n0_ n1_ n2_; (try clear hb); (try clear hb2); (try clear hk); (try clear hi); have hcz114_0 : w113.cell? ⟨gb409, 0, none⟩ = some (.string x410000_17) := (blk_cell BK409.out 0).trans rfl; have hcz114_1 : w113.cell? ⟨gb409, 1, none⟩ = some (.int .i64 x410001_17) := (blk_cell BK409.out 1).trans rfl; have hcz114_2 : w113.cell? ⟨gb409, 2, none⟩ = some (.bool x410002_17) := (blk_cell BK409.out 2).trans rfl; have hcz114_3 : w113.cell? ⟨gb409, 3, none⟩ = some (.string x410003_17) := (blk_cell BK409.out 3).trans rfl; have hcz114_4 : w113.cell? ⟨gb409, 4, none⟩ = some (.slice Ao112 x410004_17.length co112) := (blk_cell BK409.out 4).trans rfl; have hfz114_0 := blk_frozen BK409.out 0; have hfz114_1 := blk_frozen BK409.out 1; have hfz114_2 := blk_frozen BK409.out 2; have hfz114_3 := blk_frozen BK409.out 3; have hfz114_4 := blk_frozen BK409.out 4) | ((with_reducible refine gate_dst (N := 105) rfl ?_); refine Kd.R_lit k31 _ 31 ?hg (N := 105) ?hd (xs := ([(⟨(⟨#[97]⟩ : ByteArray), (⟨#[]⟩ : ByteArray)⟩ : S31)] : List (S31))) (inner := [.string (⟨#[97]⟩ : ByteArray), .string (⟨#[]⟩ : ByteArray)]) (ok := fun _ => True) (okp := fun _ => True) ?hr ?hp (fun _ hk => hk) trivial (Below.refl _ _) (Nat.le_refl _) (by simp) ?_; (case hd => rfl); (case hg => rfl); (case hr => first | (go_simp; done) | (go_simp; rfl)); (case hp => exact (Reps.c2 (show Kd.M k31 _ _ _ (⟨(⟨#[97]⟩ : ByteArray), (⟨#[]⟩ : ByteArray)⟩ : S31) [.string (⟨#[97]⟩ : ByteArray), .string (⟨#[]⟩ : ByteArray)] from (k31_mkM _ _ _ (⟨(⟨#[97]⟩ : ByteArray), (⟨#[]⟩ : ByteArray)⟩ : S31) )) (Reps.none _ _))); intro v449 w115 ho116 hb hg_ hnew_; clear hg_ hnew_; (first | rw [← Ny448.out] at ho116 | (simp only [Int.reduceToNat] at ho116; rw [← Ny448.out] at ho116)); have n0_ := Aside0.mk (Kd.R_elder' (by (with_reducible repeat (first | apply Kd.R_alloc | apply Kd.R_drewN | apply Kd.R_drew)); exact (Kd.R_mono (Kd.R_far (p := ⟨gb409, 3, none⟩) (Kd.R_far (p := ⟨gb409, 2, none⟩) (Kd.R_types HO_410004.out BK409.out (by decide)) (fun _ hk => hk.2) (.bool true)) (fun _ hk => hk.2) (.string (⟨#[120]⟩ : ByteArray))) (fun _ h_ => h_.1))) (Kd.R_base ho116) hb); have n1_ := Aside0.mk (Kd.R_lower (Kd.R_new' ho116 (Kd.R_lt (by (with_reducible repeat (first | apply Kd.R_alloc | apply Kd.R_drewN | apply Kd.R_drew)); exact (Kd.R_mono (Kd.R_far (p := ⟨gb409, 3, none⟩) (Kd.R_far (p := ⟨gb409, 2, none⟩) (Kd.R_types HO_410004.out BK409.out (by decide)) (fun _ hk => hk.2) (.bool true)) (fun _ hk => hk.2) (.string (⟨#[120]⟩ : ByteArray))) (fun _ h_ => h_.1))))) (below_size (by repeat (first | (with_reducible first | exact HB.out | apply below_alloc | apply pw_below_drewN | apply below_drew1 | refine below_set ?_ GE409.out) | exact HB.out)))); have n2_ := Aside0.mk (blk_below (g := gb409) (o := .cells #[.string x410000_17, .int .i64 x410001_17, .bool true, .string (⟨#[120]⟩ : ByteArray), .slice Ao112 x410004_17.length co112] 24 (0, 0)) (by (with_reducible repeat (first | refine blk_drewN ?_ _ | refine blk_drew ?_ | refine blk_alloc ?_ _)); refine blk_put (cs := #[.string x410000_17, .int .i64 x410001_17, .bool true, .string x410003_17, .slice Ao112 x410004_17.length co112]) ?_ 3 _ rfl; (with_reducible repeat (first | refine blk_drewN ?_ _ | refine blk_drew ?_ | refine blk_alloc ?_ _)); refine blk_put (cs := #[.string x410000_17, .int .i64 x410001_17, .bool x410002_17, .string x410003_17, .slice Ao112 x410004_17.length co112]) ?_ 2 _ rfl; (with_reducible repeat (first | refine blk_drewN ?_ _ | refine blk_drew ?_ | refine blk_alloc ?_ _)); exact BK409.out) hb); have n3_ := Aside0.mk (below_step (by repeat (first | (with_reducible first | exact HB.out | apply below_alloc | apply pw_below_drewN | apply below_drew1 | refine below_set ?_ GE409.out) | exact HB.out)) hb); clear HO_410004; clear BK409; clear HB; have HO_410004 := n0_; have HO450 := n1_; have BK409 := n2_; have HB := n3_; clear n0_ n1_ n2_ n3_; clear hb ho116; obtain ⟨Ao117, co117, eo117⟩ := Kd.R_slice HO450.out; subst eo117; have hcz118_0 : w115.cell? ⟨gb409, 0, none⟩ = some (.string x410000_17) := (blk_cell BK409.out 0).trans rfl; have hcz118_1 : w115.cell? ⟨gb409, 1, none⟩ = some (.int .i64 x410001_17) := (blk_cell BK409.out 1).trans rfl; have hcz118_2 : w115.cell? ⟨gb409, 2, none⟩ = some (.bool true) := (blk_cell BK409.out 2).trans rfl; have hcz118_3 : w115.cell? ⟨gb409, 3, none⟩ = some (.string (⟨#[120]⟩ : ByteArray)) := (blk_cell BK409.out 3).trans rfl; have hcz118_4 : w115.cell? ⟨gb409, 4, none⟩ = some (.slice Ao112 x410004_17.length co112) := (blk_cell BK409.out 4).trans rfl; have hfz118_0 := blk_frozen BK409.out 0; have hfz118_1 := blk_frozen BK409.out 1; have hfz118_2 := blk_frozen BK409.out 2; have hfz118_3 := blk_frozen BK409.out 3; have hfz118_4 := blk_frozen BK409.out 4) | ((with_reducible refine gate_callee (f := 9) rfl ?_); refine goesL_ (some 109) rfl rfl Try.func9 (by kernel_rfl) rfl #[.agg #[.string x410000_17, .int .i64 x410001_17, .bool true, .string (⟨#[120]⟩ : ByteArray), .slice Ao117 y448.length co117]] rfl (by (try simp only [List.map_toArray, List.map_cons, List.map_nil]); first | done | rfl | (simp only [List.length_drop, List.length_take]; rfl)) ?_; (with_reducible refine (version_Write.calls kj17 x410000_17 x410001_17 true (⟨#[120]⟩ : ByteArray) _ _ y448 t451 t452 _ ?side1 ?side2 A109.out).mono ?_); (case side1 => refine (Kd.R_reads' (e := 31) (base := w.heap.size) (ok := fun k_ => (True ∧ some k_ ≠ (.slice Ao112 x410004_17.length co112 : Value).ownBlock)) (n := y448.length) (c := co117) ?_).2.2; exact (by (with_reducible repeat (first | apply Kd.R_alloc | apply Kd.R_drewN | apply Kd.R_drew)); exact (Kd.R_mono (Kd.R_far (p := ⟨gb409, 4, none⟩) (Kd.R_types HO450.out BK409.out (by decide)) (fun _ hk => hk.2) (.slice Ao117 y448.length co117)) (fun _ h_ => h_.1)))); (case side2 => exact (Kd.R_reads' HO450.out).2.1); rintro e w119 ⟨rfl, hb⟩; refine ⟨_, rfl, ?_⟩; have n0_ := Aside0.mk (Kd.R_below (by (with_reducible repeat (first | apply Kd.R_alloc | apply Kd.R_drewN | apply Kd.R_drew)); exact (Kd.R_mono (Kd.R_far (p := ⟨gb409, 4, none⟩) (Kd.R_types HO_410004.out BK409.out (by decide)) (fun _ hk => hk.2) (.slice Ao117 y448.length co117)) (fun _ h_ => h_.1))) hb); have n1_ := Aside0.mk (Kd.R_below (by (with_reducible repeat (first | apply Kd.R_alloc | apply Kd.R_drewN | apply Kd.R_drew)); exact (Kd.R_mono (Kd.R_far (p := ⟨gb409, 4, none⟩) (Kd.R_types HO450.out BK409.out (by decide)) (fun _ hk => hk.2) (.slice Ao117 y448.length co117)) (fun _ h_ => h_.1))) hb); have n2_ := Aside0.mk (blk_below (g := gb409) (o := .cells #[.string x410000_17, .int .i64 x410001_17, .bool true, .string (⟨#[120]⟩ : ByteArray), .slice Ao117 y448.length co117] 24 (0, 0)) (by (with_reducible repeat (first | refine blk_drewN ?_ _ | refine blk_drew ?_ | refine blk_alloc ?_ _)); refine blk_put (cs := #[.string x410000_17, .int .i64 x410001_17, .bool true, .string (⟨#[120]⟩ : ByteArray), .slice Ao112 x410004_17.length co112]) ?_ 4 _ rfl; (with_reducible repeat (first | refine blk_drewN ?_ _ | refine blk_drew ?_ | refine blk_alloc ?_ _)); exact BK409.out) hb); have n3_ := Aside0.mk (below_step (by repeat (first | (with_reducible first | exact HB.out | apply below_alloc | apply pw_below_drewN | apply below_drew1 | refine below_set ?_ GE409.out) | exact HB.out)) hb); clear HO_410004; clear HO450; clear BK409; clear HB; have HO_410004 := n0_; have HO450 := n1_; have BK409 := n2_; have HB := n3_; clear n0_ n1_ n2_ n3_; (try clear hb); (try clear hb2); (try clear hk); (try clear hi)))
                                    go_ret
                                    exact ⟨by first | rfl | (simp [errW_none, errW_some] <;> rfl) | (simp [*, errW_none, errW_some] <;> rfl), by repeat (first | (with_reducible first | exact HB.out | apply below_alloc | apply pw_below_drewN | apply below_drew1 | refine below_set ?_ GE409.out) | exact HB.out)⟩
                                  · rw [if_neg c110] at H
                                    exact absurd H (by simp)
                                · rw [if_neg c108] at H
                                  have c108b0 : ((Go.bits .and .i64 a4 7) == 6) = false := beq_eq_false_iff_ne.mpr c108
                                  have c108b1 : ((Go.bits .and .i64 a4 7) != 6) = true := bne_iff_ne.mpr c108
                                  obtain ⟨y453, hy453⟩ : ∃ y_ : List (S31), y_ = (([(⟨(⟨#[97]⟩ : ByteArray), (⟨#[]⟩ : ByteArray)⟩ : S31)] : List (S31))) := ⟨_, rfl⟩
                                  replace H : ((version_Write.f kj17 x410000_17 x410001_17 true (⟨#[]⟩ : ByteArray) y453).bind fun bt456 => (if bt456.1.toList = ([] : List UInt8) then (some (bt456.2 == 62)) else (none))) = some r := by first | (rw [hy453]; with_reducible exact H) | (have H2_ := (Option.bind_some _ _).symm.trans H; rw [hy453]; with_reducible exact H2_) | (have H2_ := (Option.bind_some _ _).symm.trans H; with_reducible exact H2_) | with_reducible exact H | (rw [hy453]; exact H) | exact H
                                  have Ny453 := Aside0.mk hy453
                                  clear hy453
                                  replace H := Option.bind_eq_some_iff.mp H
                                  obtain ⟨⟨t456, t457⟩, A1200, H⟩ := H
                                  replace H : (if t456.toList = ([] : List UInt8) then (some (t457 == 62)) else (none)) = some r := H
                                  have A120 := Aside0.mk A1200
                                  clear A1200
                                  by_cases c121 : t456.toList = ([] : List UInt8)
                                  · rw [if_pos c121] at H
                                    have c121b0 : (t456.toList == ([] : List UInt8)) = true := beq_iff_eq.mpr c121
                                    have c121b1 : (t456.toList != ([] : List UInt8)) = false := bne_eq_false_iff_eq.mpr c121
                                    clear c121
                                    obtain rfl := Option.some.inj H
                                    have hcz122_0 : wc.cell? ⟨gb409, 0, none⟩ = some (.string x410000_17) := (blk_cell BK409.out 0).trans rfl
                                    have hcz122_1 : wc.cell? ⟨gb409, 1, none⟩ = some (.int .i64 x410001_17) := (blk_cell BK409.out 1).trans rfl
                                    have hcz122_2 : wc.cell? ⟨gb409, 2, none⟩ = some (.bool x410002_17) := (blk_cell BK409.out 2).trans rfl
                                    have hcz122_3 : wc.cell? ⟨gb409, 3, none⟩ = some (.string x410003_17) := (blk_cell BK409.out 3).trans rfl
                                    have hcz122_4 : wc.cell? ⟨gb409, 4, none⟩ = some (u410004) := (blk_cell BK409.out 4).trans rfl
                                    have hfz122_0 := blk_frozen BK409.out 0
                                    have hfz122_1 := blk_frozen BK409.out 1
                                    have hfz122_2 := blk_frozen BK409.out 2
                                    have hfz122_3 := blk_frozen BK409.out 3
                                    have hfz122_4 := blk_frozen BK409.out 4
                                    obtain ⟨Ao123, co123, eo123⟩ := Kd.R_slice HO_410004.out
                                    subst eo123
                                    go_wp2_with (first | ((with_reducible refine gate_callee (f := 9) rfl ?_); refine goesL_ (some 46) rfl rfl Try.func9 (by kernel_rfl) rfl #[.agg #[.string x410000_17, .int .i64 x410001_17, .bool x410002_17, .string x410003_17, .slice Ao123 x410004_17.length co123]] rfl (by (try simp only [List.map_toArray, List.map_cons, List.map_nil]); first | done | rfl | (simp only [List.length_drop, List.length_take]; rfl)) ?_; (with_reducible refine (version_Write.calls kj17 x410000_17 x410001_17 x410002_17 x410003_17 _ _ x410004_17 t410 t411 _ ?side1 ?side2 A26.out).mono ?_); (case side1 => repeat (first | exact (Kd.R_reads' HO_410004.out).2.2 | (with_reducible refine Kd.C_alloc ?_ _) | (with_reducible refine Kd.C_drewN ?_ _) | (with_reducible refine Kd.C_drew ?_))); (case side2 => exact (Kd.R_reads' HO_410004.out).2.1); rintro e w124 ⟨rfl, hb⟩; refine ⟨_, rfl, ?_⟩; have n0_ := Aside0.mk (Kd.R_below (by (with_reducible repeat (first | apply Kd.R_alloc | apply Kd.R_drewN | apply Kd.R_drew)); exact HO_410004.out) hb); have n1_ := Aside0.mk (blk_below (g := gb409) (o := .cells #[.string x410000_17, .int .i64 x410001_17, .bool x410002_17, .string x410003_17, .slice Ao123 x410004_17.length co123] 24 (0, 0)) (by (with_reducible repeat (first | refine blk_drewN ?_ _ | refine blk_drew ?_ | refine blk_alloc ?_ _)); exact BK409.out) hb); have n2_ := Aside0.mk (below_step (by repeat (first | (with_reducible first | exact HB.out | apply below_alloc | apply pw_below_drewN | apply below_drew1 | refine below_set ?_ GE409.out) | exact HB.out)) hb); clear HO_410004; clear BK409; clear HB; have HO_410004 := n0_; have BK409 := n1_; have HB := n2_; clear n0_ n1_ n2_; (try clear hb); (try clear hb2); (try clear hk); (try clear hi); have hcz125_0 : w124.cell? ⟨gb409, 0, none⟩ = some (.string x410000_17) := (blk_cell BK409.out 0).trans rfl; have hcz125_1 : w124.cell? ⟨gb409, 1, none⟩ = some (.int .i64 x410001_17) := (blk_cell BK409.out 1).trans rfl; have hcz125_2 : w124.cell? ⟨gb409, 2, none⟩ = some (.bool x410002_17) := (blk_cell BK409.out 2).trans rfl; have hcz125_3 : w124.cell? ⟨gb409, 3, none⟩ = some (.string x410003_17) := (blk_cell BK409.out 3).trans rfl; have hcz125_4 : w124.cell? ⟨gb409, 4, none⟩ = some (.slice Ao123 x410004_17.length co123) := (blk_cell BK409.out 4).trans rfl; have hfz125_0 := blk_frozen BK409.out 0; have hfz125_1 := blk_frozen BK409.out 1; have hfz125_2 := blk_frozen BK409.out 2; have hfz125_3 := blk_frozen BK409.out 3; have hfz125_4 := blk_frozen BK409.out 4) | ((with_reducible refine gate_dst (N := 56) rfl ?_); refine Kd.R_lit k31 _ 31 ?hg (N := 56) ?hd (xs := ([(⟨(⟨#[97]⟩ : ByteArray), (⟨#[]⟩ : ByteArray)⟩ : S31)] : List (S31))) (inner := [.string (⟨#[97]⟩ : ByteArray), .string (⟨#[]⟩ : ByteArray)]) (ok := fun _ => True) (okp := fun _ => True) ?hr ?hp (fun _ hk => hk) trivial (Below.refl _ _) (Nat.le_refl _) (by simp) ?_; (case hd => rfl); (case hg => rfl); (case hr => first | (go_simp; done) | (go_simp; rfl)); (case hp => exact (Reps.c2 (show Kd.M k31 _ _ _ (⟨(⟨#[97]⟩ : ByteArray), (⟨#[]⟩ : ByteArray)⟩ : S31) [.string (⟨#[97]⟩ : ByteArray), .string (⟨#[]⟩ : ByteArray)] from (k31_mkM _ _ _ (⟨(⟨#[97]⟩ : ByteArray), (⟨#[]⟩ : ByteArray)⟩ : S31) )) (Reps.none _ _))); intro v454 w126 ho127 hb hg_ hnew_; clear hg_ hnew_; (first | rw [← Ny453.out] at ho127 | (simp only [Int.reduceToNat] at ho127; rw [← Ny453.out] at ho127)); have n0_ := Aside0.mk (Kd.R_elder' (by (with_reducible repeat (first | apply Kd.R_alloc | apply Kd.R_drewN | apply Kd.R_drew)); exact (Kd.R_mono (Kd.R_far (p := ⟨gb409, 3, none⟩) (Kd.R_far (p := ⟨gb409, 2, none⟩) (Kd.R_types HO_410004.out BK409.out (by decide)) (fun _ hk => hk.2) (.bool true)) (fun _ hk => hk.2) (.string (⟨#[]⟩ : ByteArray))) (fun _ h_ => h_.1))) (Kd.R_base ho127) hb); have n1_ := Aside0.mk (Kd.R_lower (Kd.R_new' ho127 (Kd.R_lt (by (with_reducible repeat (first | apply Kd.R_alloc | apply Kd.R_drewN | apply Kd.R_drew)); exact (Kd.R_mono (Kd.R_far (p := ⟨gb409, 3, none⟩) (Kd.R_far (p := ⟨gb409, 2, none⟩) (Kd.R_types HO_410004.out BK409.out (by decide)) (fun _ hk => hk.2) (.bool true)) (fun _ hk => hk.2) (.string (⟨#[]⟩ : ByteArray))) (fun _ h_ => h_.1))))) (below_size (by repeat (first | (with_reducible first | exact HB.out | apply below_alloc | apply pw_below_drewN | apply below_drew1 | refine below_set ?_ GE409.out) | exact HB.out)))); have n2_ := Aside0.mk (blk_below (g := gb409) (o := .cells #[.string x410000_17, .int .i64 x410001_17, .bool true, .string (⟨#[]⟩ : ByteArray), .slice Ao123 x410004_17.length co123] 24 (0, 0)) (by (with_reducible repeat (first | refine blk_drewN ?_ _ | refine blk_drew ?_ | refine blk_alloc ?_ _)); refine blk_put (cs := #[.string x410000_17, .int .i64 x410001_17, .bool true, .string x410003_17, .slice Ao123 x410004_17.length co123]) ?_ 3 _ rfl; (with_reducible repeat (first | refine blk_drewN ?_ _ | refine blk_drew ?_ | refine blk_alloc ?_ _)); refine blk_put (cs := #[.string x410000_17, .int .i64 x410001_17, .bool x410002_17, .string x410003_17, .slice Ao123 x410004_17.length co123]) ?_ 2 _ rfl; (with_reducible repeat (first | refine blk_drewN ?_ _ | refine blk_drew ?_ | refine blk_alloc ?_ _)); exact BK409.out) hb); have n3_ := Aside0.mk (below_step (by repeat (first | (with_reducible first | exact HB.out | apply below_alloc | apply pw_below_drewN | apply below_drew1 | refine below_set ?_ GE409.out) | exact HB.out)) hb); clear HO_410004; clear BK409; clear HB; have HO_410004 := n0_; have HO455 := n1_; have BK409 := n2_; have HB := n3_; clear n0_ n1_ n2_ n3_; clear hb ho127; obtain ⟨Ao128, co128, eo128⟩ := Kd.R_slice HO455.out; subst eo128; have hcz129_0 : w126.cell? ⟨gb409, 0, none⟩ = some (.string x410000_17) := (blk_cell BK409.out 0).trans rfl; have hcz129_1 : w126.cell? ⟨gb409, 1, none⟩ = some (.int .i64 x410001_17) := (blk_cell BK409.out 1).trans rfl; have hcz129_2 : w126.cell? ⟨gb409, 2, none⟩ = some (.bool true) := (blk_cell BK409.out 2).trans rfl; have hcz129_3 : w126.cell? ⟨gb409, 3, none⟩ = some (.string (⟨#[]⟩ : ByteArray)) := (blk_cell BK409.out 3).trans rfl; have hcz129_4 : w126.cell? ⟨gb409, 4, none⟩ = some (.slice Ao123 x410004_17.length co123) := (blk_cell BK409.out 4).trans rfl; have hfz129_0 := blk_frozen BK409.out 0; have hfz129_1 := blk_frozen BK409.out 1; have hfz129_2 := blk_frozen BK409.out 2; have hfz129_3 := blk_frozen BK409.out 3; have hfz129_4 := blk_frozen BK409.out 4) | ((with_reducible refine gate_callee (f := 9) rfl ?_); refine goesL_ (some 109) rfl rfl Try.func9 (by kernel_rfl) rfl #[.agg #[.string x410000_17, .int .i64 x410001_17, .bool true, .string (⟨#[]⟩ : ByteArray), .slice Ao128 y453.length co128]] rfl (by (try simp only [List.map_toArray, List.map_cons, List.map_nil]); first | done | rfl | (simp only [List.length_drop, List.length_take]; rfl)) ?_; (with_reducible refine (version_Write.calls kj17 x410000_17 x410001_17 true (⟨#[]⟩ : ByteArray) _ _ y453 t456 t457 _ ?side1 ?side2 A120.out).mono ?_); (case side1 => refine (Kd.R_reads' (e := 31) (base := w.heap.size) (ok := fun k_ => (True ∧ some k_ ≠ (.slice Ao123 x410004_17.length co123 : Value).ownBlock)) (n := y453.length) (c := co128) ?_).2.2; exact (by (with_reducible repeat (first | apply Kd.R_alloc | apply Kd.R_drewN | apply Kd.R_drew)); exact (Kd.R_mono (Kd.R_far (p := ⟨gb409, 4, none⟩) (Kd.R_types HO455.out BK409.out (by decide)) (fun _ hk => hk.2) (.slice Ao128 y453.length co128)) (fun _ h_ => h_.1)))); (case side2 => exact (Kd.R_reads' HO455.out).2.1); rintro e w130 ⟨rfl, hb⟩; refine ⟨_, rfl, ?_⟩; have n0_ := Aside0.mk (Kd.R_below (by (with_reducible repeat (first | apply Kd.R_alloc | apply Kd.R_drewN | apply Kd.R_drew)); exact (Kd.R_mono (Kd.R_far (p := ⟨gb409, 4, none⟩) (Kd.R_types HO_410004.out BK409.out (by decide)) (fun _ hk => hk.2) (.slice Ao128 y453.length co128)) (fun _ h_ => h_.1))) hb); have n1_ := Aside0.mk (Kd.R_below (by (with_reducible repeat (first | apply Kd.R_alloc | apply Kd.R_drewN | apply Kd.R_drew)); exact (Kd.R_mono (Kd.R_far (p := ⟨gb409, 4, none⟩) (Kd.R_types HO455.out BK409.out (by decide)) (fun _ hk => hk.2) (.slice Ao128 y453.length co128)) (fun _ h_ => h_.1))) hb); have n2_ := Aside0.mk (blk_below (g := gb409) (o := .cells #[.string x410000_17, .int .i64 x410001_17, .bool true, .string (⟨#[]⟩ : ByteArray), .slice Ao128 y453.length co128] 24 (0, 0)) (by (with_reducible repeat (first | refine blk_drewN ?_ _ | refine blk_drew ?_ | refine blk_alloc ?_ _)); refine blk_put (cs := #[.string x410000_17, .int .i64 x410001_17, .bool true, .string (⟨#[]⟩ : ByteArray), .slice Ao123 x410004_17.length co123]) ?_ 4 _ rfl; (with_reducible repeat (first | refine blk_drewN ?_ _ | refine blk_drew ?_ | refine blk_alloc ?_ _)); exact BK409.out) hb); have n3_ := Aside0.mk (below_step (by repeat (first | (with_reducible first | exact HB.out | apply below_alloc | apply pw_below_drewN | apply below_drew1 | refine below_set ?_ GE409.out) | exact HB.out)) hb); clear HO_410004; clear HO455; clear BK409; clear HB; have HO_410004 := n0_; have HO455 := n1_; have BK409 := n2_; have HB := n3_; clear n0_ n1_ n2_ n3_; (try clear hb); (try clear hb2); (try clear hk); (try clear hi)))
                                    go_ret
                                    exact ⟨by first | rfl | (simp [errW_none, errW_some] <;> rfl) | (simp [*, errW_none, errW_some] <;> rfl), by repeat (first | (with_reducible first | exact HB.out | apply below_alloc | apply pw_below_drewN | apply below_drew1 | refine below_set ?_ GE409.out) | exact HB.out)⟩
                                  · rw [if_neg c121] at H
                                    exact absurd H (by simp)
                  · rw [if_neg c27] at H
                    exact absurd H (by simp)
            · rw [if_neg c17] at H
              exact absurd H (by simp)
  · replace c7 := Bool.eq_false_iff.mpr c7
    subst c7
    have H1 : (none) = some r := by rw [if_neg (show ¬ (false = true) by decide)] at H; exact H
    clear H
    have H := H1
    clear H1
    exact absurd H (by simp)

/-- THE ONE PURE STATEMENT of cofferlaw13_VersionRight: yours. -/
def cofferlaw13_VersionRight.Pure : Prop := ∀ (a0 : ByteArray) (a1 : ByteArray) (a2 : Int) (a3 : Bool) (a4 : Int), a0.size ≤ 140737488351232 → a1.size ≤ 140737488351232 → (Lit.int .i64 a2).wf = true → (Lit.int .i64 a4).wf = true → ∃ k, cofferlaw13_VersionRight.f k a0 a1 a2 a3 a4 = some true
theorem cofferlaw13_VersionRight.walk (P : cofferlaw13_VersionRight.Pure) (a0 : ByteArray) (a1 : ByteArray) (a2 : Int) (a3 : Bool) (a4 : Int) (w : World) (w0 : a0.size ≤ 140737488351232) (w1 : a1.size ≤ 140737488351232) (w2 : (Lit.int .i64 a2).wf = true) (w4 : (Lit.int .i64 a4).wf = true) :
    Calls Try.prog 6 #[.string a0, .string a1, .int .i64 a2, .bool a3, .int .i64 a4] w fun e w' => e = .returned (.bool true) ∧ Below w.heap.size w w' := by
  obtain ⟨k, h⟩ := P a0 a1 a2 a3 a4 w0 w1 w2 w4
  refine (cofferlaw13_VersionRight.calls k a0 a1 a2 a3 a4 true w h).mono ?_
  rintro e w' ⟨rfl, hd⟩
  exact ⟨rfl, hd⟩

end Go.Proofs.Ytdhkcklgnnilfaa.X
