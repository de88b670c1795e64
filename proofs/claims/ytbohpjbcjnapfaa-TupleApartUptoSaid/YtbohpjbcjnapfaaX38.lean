-- By a program of this session (wip/xprint.py over the kit's print).
import Derived.Test.YtbohpjbcjnapfaaX0
import Derived.Test.YtbohpjbcjnapfaaX37
namespace Go.Proofs.Ytbohpjbcjnapfaa.X
open Go.RowKit Go.Proofs.YtbohpjbcjnapfaaW.PrintWords Go.Proofs.YtbohpjbcjnapfaaW.PrintLast Go.Proofs.YtbohpjbcjnapfaaW.PrintMore
attribute [local go_sem] max2_int min2_int max_two min_two max_three min_three max_four min_four Go.Proofs.Ytbohpjbcjnapfaa.Z.leq_string Go.Proofs.Ytbohpjbcjnapfaa.Z.gtr_string Go.Proofs.Ytbohpjbcjnapfaa.Z.geq_string   -- for this text's walks alone
set_option linter.unusedVariables false
set_option linter.unusedSimpArgs false

/-! ### cofferref05_text: function 39 -/
def cofferref05_text.l0 : Nat → ByteArray → ByteArray → Int → Option (ByteArray × Int × Bool)
  | 0, _, _, _ => none
  | k + 1, x0, x5, x6 => if (wrap64 (x6 + 9)) ≤ (x0.size : Int) then (if 0 ≤ (wrap64 (x6 + 8)) then (if (wrap64 (x6 + 8)) < (x0.size : Int) then (if (wrap64 (bt x0 (wrap64 (x6 + 8)))) = 9 then (if 0 ≤ x6 then (if x6 ≤ (wrap64 (x6 + 8)) then (if (wrap64 (x6 + 8)) ≤ (x0.size : Int) then (if x5.size + (x0.extract (x6 : Int).toNat ((wrap64 (x6 + 8)) : Int).toNat).size ≤ 9223372036854775807 then (cofferref05_text.l0 k x0 (x5 ++ (x0.extract (x6 : Int).toNat ((wrap64 (x6 + 8)) : Int).toNat)) (wrap64 (x6 + 9))) else (none)) else (none)) else (none)) else (none)) else (if (wrap64 (bt x0 (wrap64 (x6 + 8)))) > 9 then (some ((⟨#[]⟩ : ByteArray), 0, false)) else (if (wrap64 (bt x0 (wrap64 (x6 + 8)))) = 0 then (if x6 > 0 then (some ((⟨#[]⟩ : ByteArray), 0, false)) else (if 0 ≤ x6 then (if x6 ≤ (wrap64 (x6 + (wrap64 (bt x0 (wrap64 (x6 + 8)))))) then (if (wrap64 (x6 + (wrap64 (bt x0 (wrap64 (x6 + 8)))))) ≤ (x0.size : Int) then (if x5.size + (x0.extract (x6 : Int).toNat ((wrap64 (x6 + (wrap64 (bt x0 (wrap64 (x6 + 8)))))) : Int).toNat).size ≤ 9223372036854775807 then ((cofferref05_groups.f k (x5 ++ (x0.extract (x6 : Int).toNat ((wrap64 (x6 + (wrap64 (bt x0 (wrap64 (x6 + 8)))))) : Int).toNat))).bind fun t175 => (if 0 ≤ (wrap64 (x6 + 9)) then (some (x5 ++ (x0.extract (x6 : Int).toNat ((wrap64 (x6 + (wrap64 (bt x0 (wrap64 (x6 + 8)))))) : Int).toNat), wrap64 (x6 + 9), (t175.toList == (x0.extract 0 ((wrap64 (x6 + 9)) : Int).toNat).toList))) else (none))) else (none)) else (none)) else (none)) else (none))) else (if 0 ≤ x6 then (if x6 ≤ (wrap64 (x6 + (wrap64 (bt x0 (wrap64 (x6 + 8)))))) then (if (wrap64 (x6 + (wrap64 (bt x0 (wrap64 (x6 + 8)))))) ≤ (x0.size : Int) then (if x5.size + (x0.extract (x6 : Int).toNat ((wrap64 (x6 + (wrap64 (bt x0 (wrap64 (x6 + 8)))))) : Int).toNat).size ≤ 9223372036854775807 then ((cofferref05_groups.f k (x5 ++ (x0.extract (x6 : Int).toNat ((wrap64 (x6 + (wrap64 (bt x0 (wrap64 (x6 + 8)))))) : Int).toNat))).bind fun t176 => (if 0 ≤ (wrap64 (x6 + 9)) then (some (x5 ++ (x0.extract (x6 : Int).toNat ((wrap64 (x6 + (wrap64 (bt x0 (wrap64 (x6 + 8)))))) : Int).toNat), wrap64 (x6 + 9), (t176.toList == (x0.extract 0 ((wrap64 (x6 + 9)) : Int).toNat).toList))) else (none))) else (none)) else (none)) else (none)) else (none))))) else (none)) else (none)) else (some ((⟨#[]⟩ : ByteArray), 0, false))
def cofferref05_text.f (k : Nat) (a0 : ByteArray) : Option (ByteArray × Int × Bool) := cofferref05_text.l0 k a0 (⟨#[]⟩ : ByteArray) 0
theorem cofferref05_text.mono_l : ∀ k, (∀ y0 y1 y2, LeO (cofferref05_text.l0 k y0 y1 y2) (cofferref05_text.l0 (k + 1) y0 y1 y2))
  | 0 => fun _ _ _ r h => by simp [cofferref05_text.l0] at h
  | k + 1 => by
    have ih0 := cofferref05_text.mono_l k
    · intro y0 y1 y2
      unfold cofferref05_text.l0
      repeat' first
      | (with_reducible exact ih0 _ _ _)
      | (with_reducible exact cofferref05_groups.mono _ _)
      | (with_reducible exact LeO.refl _)
      | (with_reducible exact LeO.none _)
      | (with_reducible refine LeO.ite ?_ ?_)
      | (with_reducible refine LeO.bind ?_ (fun _ => ?_))
      | exact ih0 _ _ _
      | exact cofferref05_groups.mono _ _
      | exact LeO.none _
      | refine LeO.ite ?_ ?_
      | refine LeO.bind ?_ (fun _ => ?_)
theorem cofferref05_text.mono : ∀ a0 k, LeO (cofferref05_text.f k a0) (cofferref05_text.f (k + 1) a0) := by
  intro a0 k
  have ih0 := cofferref05_text.mono_l k
  unfold cofferref05_text.f
  repeat' first
      | (with_reducible exact ih0 _ _ _)
      | (with_reducible exact cofferref05_groups.mono _ _)
      | (with_reducible exact LeO.refl _)
      | (with_reducible exact LeO.none _)
      | (with_reducible refine LeO.ite ?_ ?_)
      | (with_reducible refine LeO.bind ?_ (fun _ => ?_))
      | exact ih0 _ _ _
      | exact cofferref05_groups.mono _ _
      | exact LeO.none _
      | refine LeO.ite ?_ ?_
      | refine LeO.bind ?_ (fun _ => ?_)
def cofferref05_text.T11 : Bool × List (List Nat × List Nat) := (true, [([], []), ([], []), ([1], [1]), ([], []), ([3], [3]), ([], []), ([], []), ([6], [6]), ([5, 7], [5, 7]), ([4, 8], [4, 8]), ([0, 4, 0], [0]), ([2, 10, 0, 1, 2, 10], [2]), ([9, 11, 0, 1, 2, 3, 4, 5, 6, 7, 8, 9, 10, 11], [9])])
def cofferref05_text.B11 : List Nat := [0, 0, 2, 0, 8, 0, 0, 64, 224, 504, 25, 1055, 4095]
theorem cofferref05_text.tab11 : rtab .any (opsOf Try.f39 11) = cofferref05_text.T11 := by kernel_rfl
theorem cofferref05_text.bits11 : waitsOk cofferref05_text.T11.2 cofferref05_text.B11 = true := by kernel_rfl
set_option maxHeartbeats 8000000 in
set_option maxRecDepth 100000 in
theorem cofferref05_text.calls (k : Nat) (a0 : ByteArray) (r1 : ByteArray) (r2 : Int) (r3 : Bool) (w : World) (h : cofferref05_text.f k a0 = some (r1, r2, r3)) :
    Calls Try.prog 39 #[.string a0] w fun e w' => e = .returned (.tuple #[.string r1, .int .i64 r2, .bool r3]) ∧ Below w.heap.size w w' := by
  have HB := Aside0.mk (Below.refl w.heap.size w)
  have H : (cofferref05_text.l0 k a0 (⟨#[]⟩ : ByteArray) 0) = some (r1, r2, r3) := h
  clear h
  have H' := Aside0.mk H
  clear H
  go_enter Try.func39, Try.ntmps39
  go_wp2
  go_loopg [5, 6] k (fun kq v5 v6 w' => ∃ (x5_1 : ByteArray) (x6_1 : Int), v5 = .string x5_1 ∧ v6 = .int .i64 x6_1 ∧ Aside0 (cofferref05_text.l0 kq a0 x5_1 x6_1 = some (r1, r2, r3)) ∧ Aside0 (kq ≤ k) ∧ Aside0 (Below w.heap.size w w'))
  case atStart => exact ⟨((⟨#[]⟩ : ByteArray)), (0), (by first | rfl | (simp; done) | (simp [Go.Proofs.Ytbohpjbcjnapfaa.Z.bne_nil, Go.Proofs.Ytbohpjbcjnapfaa.Z.beq_nil]; done) | (simp [*]; done)), (by first | rfl | (simp; done) | (simp [Go.Proofs.Ytbohpjbcjnapfaa.Z.bne_nil, Go.Proofs.Ytbohpjbcjnapfaa.Z.beq_nil]; done) | (simp [*]; done)), H', ⟨Nat.le_refl _⟩, ⟨by repeat (first | (with_reducible first | exact HB.out | apply below_alloc | apply pw_below_drewN | apply below_drew1) | exact HB.out)⟩⟩
  case round =>
    clear H'
    obtain ⟨x5_1, x6_1, rfl, rfl, HA, HK1, HB⟩ := hrel
    cases gk with
    | zero => exact absurd HA.out (by simp [cofferref05_text.l0])
    | succ k1 =>
      have H := HA.out
      clear HA
      simp only [cofferref05_text.l0] at H
      by_cases c2 : (wrap64 (x6_1 + 9)) ≤ (a0.size : Int)
      · rw [if_pos c2] at H
        have c2b0 : decide ((wrap64 (x6_1 + 9)) ≤ (a0.size : Int)) = true := decide_eq_true c2
        clear c2
        obtain ⟨ji3, hji3⟩ : ∃ j_ : Int, (wrap64 (x6_1 + 8)) = j_ := ⟨_, rfl⟩
        replace H : (if 0 ≤ (ji3) then (if (ji3) < (a0.size : Int) then (if (wrap64 (bt a0 (ji3))) = 9 then (if 0 ≤ x6_1 then (if x6_1 ≤ (ji3) then (if (ji3) ≤ (a0.size : Int) then (if x5_1.size + (a0.extract (x6_1 : Int).toNat ((ji3) : Int).toNat).size ≤ 9223372036854775807 then (cofferref05_text.l0 k1 a0 (x5_1 ++ (a0.extract (x6_1 : Int).toNat ((ji3) : Int).toNat)) (wrap64 (x6_1 + 9))) else (none)) else (none)) else (none)) else (none)) else (if (wrap64 (bt a0 (ji3))) > 9 then (some ((⟨#[]⟩ : ByteArray), 0, false)) else (if (wrap64 (bt a0 (ji3))) = 0 then (if x6_1 > 0 then (some ((⟨#[]⟩ : ByteArray), 0, false)) else (if 0 ≤ x6_1 then (if x6_1 ≤ (wrap64 (x6_1 + (wrap64 (bt a0 (ji3))))) then (if (wrap64 (x6_1 + (wrap64 (bt a0 (ji3))))) ≤ (a0.size : Int) then (if x5_1.size + (a0.extract (x6_1 : Int).toNat ((wrap64 (x6_1 + (wrap64 (bt a0 (ji3))))) : Int).toNat).size ≤ 9223372036854775807 then ((cofferref05_groups.f k1 (x5_1 ++ (a0.extract (x6_1 : Int).toNat ((wrap64 (x6_1 + (wrap64 (bt a0 (ji3))))) : Int).toNat))).bind fun t175 => (if 0 ≤ (wrap64 (x6_1 + 9)) then (some (x5_1 ++ (a0.extract (x6_1 : Int).toNat ((wrap64 (x6_1 + (wrap64 (bt a0 (ji3))))) : Int).toNat), wrap64 (x6_1 + 9), (t175.toList == (a0.extract 0 ((wrap64 (x6_1 + 9)) : Int).toNat).toList))) else (none))) else (none)) else (none)) else (none)) else (none))) else (if 0 ≤ x6_1 then (if x6_1 ≤ (wrap64 (x6_1 + (wrap64 (bt a0 (ji3))))) then (if (wrap64 (x6_1 + (wrap64 (bt a0 (ji3))))) ≤ (a0.size : Int) then (if x5_1.size + (a0.extract (x6_1 : Int).toNat ((wrap64 (x6_1 + (wrap64 (bt a0 (ji3))))) : Int).toNat).size ≤ 9223372036854775807 then ((cofferref05_groups.f k1 (x5_1 ++ (a0.extract (x6_1 : Int).toNat ((wrap64 (x6_1 + (wrap64 (bt a0 (ji3))))) : Int).toNat))).bind fun t176 => (if 0 ≤ (wrap64 (x6_1 + 9)) then (some (x5_1 ++ (a0.extract (x6_1 : Int).toNat ((wrap64 (x6_1 + (wrap64 (bt a0 (ji3))))) : Int).toNat), wrap64 (x6_1 + 9), (t176.toList == (a0.extract 0 ((wrap64 (x6_1 + 9)) : Int).toNat).toList))) else (none))) else (none)) else (none)) else (none)) else (none))))) else (none)) else (none)) = some (r1, r2, r3) := by first | (rw [hji3] at H; exact H) | (simp only [hji3] at H ⊢; exact H)
        have hji3w : (IntKind.i64.wrap (x6_1 + 8)) = ji3 := (i64_w _).trans hji3
        by_cases c4 : 0 ≤ (ji3)
        · rw [if_pos c4] at H
          have c4b0 : decide (0 ≤ (ji3)) = true := decide_eq_true c4
          clear c4
          by_cases c5 : (ji3) < (a0.size : Int)
          · rw [if_pos c5] at H
            have c5b0 : decide ((ji3) < (a0.size : Int)) = true := decide_eq_true c5
            clear c5
            by_cases c7 : (wrap64 (bt a0 (ji3))) = 9
            · rw [if_pos c7] at H
              have c7b0 : ((wrap64 (bt a0 (ji3))) == 9) = true := beq_iff_eq.mpr c7
              have c7b1 : ((wrap64 (bt a0 (ji3))) != 9) = false := bne_eq_false_iff_eq.mpr c7
              clear c7
              by_cases c8 : 0 ≤ x6_1
              · rw [if_pos c8] at H
                have c8b0 := eq_true c8
                have c8b1 : decide (0 ≤ x6_1) = true := decide_eq_true c8
                clear c8
                by_cases c9 : x6_1 ≤ (ji3)
                · rw [if_pos c9] at H
                  have c9b0 := eq_true c9
                  have c9b1 : decide (x6_1 ≤ (ji3)) = true := decide_eq_true c9
                  clear c9
                  by_cases c10 : (ji3) ≤ (a0.size : Int)
                  · rw [if_pos c10] at H
                    have c10b0 := eq_true c10
                    have c10b1 : decide ((ji3) ≤ (a0.size : Int)) = true := decide_eq_true c10
                    clear c10
                    by_cases c11 : x5_1.size + (a0.extract (x6_1 : Int).toNat ((ji3) : Int).toNat).size ≤ 9223372036854775807
                    · rw [if_pos c11] at H
                      have c11b0 := eq_true c11
                      have c11b1 : decide (x5_1.size + (a0.extract (x6_1 : Int).toNat ((ji3) : Int).toNat).size ≤ 9223372036854775807) = true := decide_eq_true c11
                      try have c11b2 : (9223372036854775807 < x5_1.size + (a0.extract (x6_1 : Int).toNat ((ji3) : Int).toNat).size) = False := eq_false (Nat.not_lt.2 c11)
                      have H' := Aside0.mk H
                      clear H
                      have p6 : 0 ≤ ((ji3) : Int) := of_decide_eq_true (by first | (with_reducible assumption) | assumption)
                      have q6 : (ji3) < (a0.size : Int) := of_decide_eq_true (by first | (with_reducible assumption) | assumption)
                      have hx6 := bt_at a0 (ji3)
                      replace p6 := eq_true p6
                      replace q6 := eq_true q6
                      go_wp2
                      go_roundg k1
                      case measure => have := HK1.out; omega
                      case rel => exact ⟨(x5_1 ++ (a0.extract (x6_1 : Int).toNat ((ji3) : Int).toNat)), (wrap64 (x6_1 + 9)), (by first | rfl | (simp; done) | (simp only [← hji3] <;> (first | rfl | simp)) | (simp [*]; done)), (by first | rfl | (simp; done) | (simp [Go.Proofs.Ytbohpjbcjnapfaa.Z.bne_nil, Go.Proofs.Ytbohpjbcjnapfaa.Z.beq_nil]; done) | (simp [*]; done)), H', ⟨by have := HK1.out; omega⟩, ⟨by repeat (first | (with_reducible first | exact HB.out | apply below_alloc | apply pw_below_drewN | apply below_drew1) | exact HB.out)⟩⟩
                    · rw [if_neg c11] at H
                      exact absurd H (by simp)
                  · rw [if_neg c10] at H
                    exact absurd H (by simp)
                · rw [if_neg c9] at H
                  exact absurd H (by simp)
              · rw [if_neg c8] at H
                exact absurd H (by simp)
            · rw [if_neg c7] at H
              have c7b0 : ((wrap64 (bt a0 (ji3))) == 9) = false := beq_eq_false_iff_ne.mpr c7
              have c7b1 : ((wrap64 (bt a0 (ji3))) != 9) = true := bne_iff_ne.mpr c7
              by_cases c12 : (wrap64 (bt a0 (ji3))) > 9
              · rw [if_pos c12] at H
                have c12b0 : decide (9 < (wrap64 (bt a0 (ji3)))) = true := decide_eq_true c12
                clear c12
                simp only [Option.some.injEq, Prod.mk.injEq] at H
                obtain ⟨rfl, rfl, rfl⟩ := H
                have p6 : 0 ≤ ((ji3) : Int) := of_decide_eq_true (by first | (with_reducible assumption) | assumption)
                have q6 : (ji3) < (a0.size : Int) := of_decide_eq_true (by first | (with_reducible assumption) | assumption)
                have hx6 := bt_at a0 (ji3)
                replace p6 := eq_true p6
                replace q6 := eq_true q6
                go_wp2
                go_ret3
                exact ⟨by first | rfl | (simp [errW_none, errW_some] <;> rfl) | (simp only [← hji3]; first | rfl | (simp [errW_none, errW_some] <;> rfl)) | (simp [*, errW_none, errW_some] <;> rfl), by repeat (first | (with_reducible first | exact HB.out | apply below_alloc | apply pw_below_drewN | apply below_drew1) | exact HB.out)⟩
              · rw [if_neg c12] at H
                have c12b0 : decide (9 < (wrap64 (bt a0 (ji3)))) = false := decide_eq_false c12
                clear c12
                by_cases c13 : (wrap64 (bt a0 (ji3))) = 0
                · rw [if_pos c13] at H
                  have c13b0 : ((wrap64 (bt a0 (ji3))) == 0) = true := beq_iff_eq.mpr c13
                  have c13b1 : ((wrap64 (bt a0 (ji3))) != 0) = false := bne_eq_false_iff_eq.mpr c13
                  clear c13
                  by_cases c14 : x6_1 > 0
                  · rw [if_pos c14] at H
                    have c14b0 : decide (0 < x6_1) = true := decide_eq_true c14
                    clear c14
                    simp only [Option.some.injEq, Prod.mk.injEq] at H
                    obtain ⟨rfl, rfl, rfl⟩ := H
                    have p6 : 0 ≤ ((ji3) : Int) := of_decide_eq_true (by first | (with_reducible assumption) | assumption)
                    have q6 : (ji3) < (a0.size : Int) := of_decide_eq_true (by first | (with_reducible assumption) | assumption)
                    have hx6 := bt_at a0 (ji3)
                    replace p6 := eq_true p6
                    replace q6 := eq_true q6
                    go_wp2
                    go_ret3
                    exact ⟨by first | rfl | (simp [errW_none, errW_some] <;> rfl) | (simp only [← hji3]; first | rfl | (simp [errW_none, errW_some] <;> rfl)) | (simp [*, errW_none, errW_some] <;> rfl), by repeat (first | (with_reducible first | exact HB.out | apply below_alloc | apply pw_below_drewN | apply below_drew1) | exact HB.out)⟩
                  · rw [if_neg c14] at H
                    have c14b0 : decide (0 < x6_1) = false := decide_eq_false c14
                    clear c14
                    by_cases c15 : 0 ≤ x6_1
                    · rw [if_pos c15] at H
                      have c15b0 := eq_true c15
                      have c15b1 : decide (0 ≤ x6_1) = true := decide_eq_true c15
                      clear c15
                      by_cases c16 : x6_1 ≤ (wrap64 (x6_1 + (wrap64 (bt a0 (ji3)))))
                      · rw [if_pos c16] at H
                        have c16b0 := eq_true c16
                        have c16b1 : decide (x6_1 ≤ (wrap64 (x6_1 + (wrap64 (bt a0 (ji3)))))) = true := decide_eq_true c16
                        by_cases c17 : (wrap64 (x6_1 + (wrap64 (bt a0 (ji3))))) ≤ (a0.size : Int)
                        · rw [if_pos c17] at H
                          have c17b0 := eq_true c17
                          have c17b1 : decide ((wrap64 (x6_1 + (wrap64 (bt a0 (ji3))))) ≤ (a0.size : Int)) = true := decide_eq_true c17
                          by_cases c18 : x5_1.size + (a0.extract (x6_1 : Int).toNat ((wrap64 (x6_1 + (wrap64 (bt a0 (ji3))))) : Int).toNat).size ≤ 9223372036854775807
                          · rw [if_pos c18] at H
                            have c18b0 := eq_true c18
                            have c18b1 : decide (x5_1.size + (a0.extract (x6_1 : Int).toNat ((wrap64 (x6_1 + (wrap64 (bt a0 (ji3))))) : Int).toNat).size ≤ 9223372036854775807) = true := decide_eq_true c18
                            try have c18b2 : (9223372036854775807 < x5_1.size + (a0.extract (x6_1 : Int).toNat ((wrap64 (x6_1 + (wrap64 (bt a0 (ji3))))) : Int).toNat).size) = False := eq_false (Nat.not_lt.2 c18)
                            replace H := Option.bind_eq_some_iff.mp H
                            obtain ⟨t175, A190, H⟩ := H
                            replace H : (if 0 ≤ (wrap64 (x6_1 + 9)) then (some (x5_1 ++ (a0.extract (x6_1 : Int).toNat ((wrap64 (x6_1 + (wrap64 (bt a0 (ji3))))) : Int).toNat), wrap64 (x6_1 + 9), (t175.toList == (a0.extract 0 ((wrap64 (x6_1 + 9)) : Int).toNat).toList))) else (none)) = some (r1, r2, r3) := H
                            have A19 := Aside0.mk A190
                            clear A190
                            obtain ⟨ji20, hji20⟩ : ∃ j_ : Int, (wrap64 (x6_1 + 9)) = j_ := ⟨_, rfl⟩
                            replace H : (if 0 ≤ (ji20) then (some (x5_1 ++ (a0.extract (x6_1 : Int).toNat ((wrap64 (x6_1 + (wrap64 (bt a0 (ji3))))) : Int).toNat), ji20, (t175.toList == (a0.extract 0 ((ji20) : Int).toNat).toList))) else (none)) = some (r1, r2, r3) := by first | (rw [hji20] at H; exact H) | (simp only [hji20] at H ⊢; exact H)
                            (try rw [hji20] at c2b0)
                            (try rw [hji20] at A19)
                            have hji20w : (IntKind.i64.wrap (x6_1 + 9)) = ji20 := (i64_w _).trans hji20
                            by_cases c21 : 0 ≤ (ji20)
                            · rw [if_pos c21] at H
                              have c21b0 := eq_true c21
                              have c21b1 : decide (0 ≤ (ji20)) = true := decide_eq_true c21
                              clear c21
                              have c22b0 := eq_true (of_decide_eq_true (by first | (with_reducible assumption) | assumption) : (ji20) ≤ (a0.size : Int))
                              simp only [Option.some.injEq, Prod.mk.injEq] at H
                              obtain ⟨rfl, rfl, rfl⟩ := H
                              have p6 : 0 ≤ ((ji3) : Int) := of_decide_eq_true (by first | (with_reducible assumption) | assumption)
                              have q6 : (ji3) < (a0.size : Int) := of_decide_eq_true (by first | (with_reducible assumption) | assumption)
                              have hx6 := bt_at a0 (ji3)
                              replace p6 := eq_true p6
                              replace q6 := eq_true q6
                              try go_wp2
                              have n0_ := Aside0.mk (below_drew1 HB.out)
                              clear HB
                              have HB := n0_
                              clear n0_
                              refine start_ (n := 13) (S := fun w' => True) (ds := []) #[false, false, false, false, false, false, false, false, false, false, false, false, false] (by kernel_rfl) rfl rfl trivial (fun hHeld => ?_); refine with_tabW cofferref05_text.tab11 cofferref05_text.bits11 (fun HT_ HW_ => ?_)
                              generalize wr.drew = w23 at HB hHeld ⊢
                              refine pure_ (i := 0) (N := some 47) (v := ?_) (a' := ?_) #[true, false, false, false, false, false, false, false, false, false, false, false, false] rfl rfl (any_of HT_.out (by kernel_rfl)) (fun _ _ _ h => h) (Or.inl ⟨by rfl, ?_⟩) ?_ ?_
                              rotate_left
                              · intro w'
                                go_simp
                                with_reducible rfl
                              rotate_left
                              · simp only [Act.put, List.setIfInBounds_toArray, List.set_cons_zero, List.set_cons_succ, i64_w, i32_w]
                                rfl
                              refine pure_ (i := 1) (N := some 48) (v := ?_) (a' := ?_) #[true, true, false, false, false, false, false, false, false, false, false, false, false] rfl rfl (any_of HT_.out (by kernel_rfl)) (fun _ _ _ h => h) (Or.inl ⟨by rfl, ?_⟩) ?_ ?_
                              rotate_left
                              · intro w'
                                go_simp
                                with_reducible rfl
                              rotate_left
                              · simp only [Act.put, List.setIfInBounds_toArray, List.set_cons_zero, List.set_cons_succ, i64_w, i32_w]
                                rfl
                              refine pure_ (i := 2) (N := some 49) (v := ?_) (a' := ?_) #[true, true, true, false, false, false, false, false, false, false, false, false, false] rfl rfl (any_of HT_.out (by kernel_rfl)) (fun _ _ _ h => h) (Or.inl ⟨by rfl, ?_⟩) ?_ ?_
                              rotate_left
                              · intro w'
                                go_simp
                                with_reducible rfl
                              rotate_left
                              · simp only [Act.put, List.setIfInBounds_toArray, List.set_cons_zero, List.set_cons_succ, i64_w, i32_w]
                                rfl
                              refine pure_ (i := 3) (N := some 50) (v := ?_) (a' := ?_) #[true, true, true, true, false, false, false, false, false, false, false, false, false] rfl rfl (any_of HT_.out (by kernel_rfl)) (fun _ _ _ h => h) (Or.inl ⟨by rfl, ?_⟩) ?_ ?_
                              rotate_left
                              · intro w'
                                go_simp
                                with_reducible rfl
                              rotate_left
                              · simp only [Act.put, List.setIfInBounds_toArray, List.set_cons_zero, List.set_cons_succ, i64_w, i32_w]
                                rfl
                              refine pure_ (i := 5) (N := some 52) (v := ?_) (a' := ?_) #[true, true, true, true, false, true, false, false, false, false, false, false, false] rfl rfl (any_of HT_.out (by kernel_rfl)) (fun _ _ _ h => h) (Or.inl ⟨by rfl, ?_⟩) ?_ ?_
                              rotate_left
                              · intro w'
                                go_simp
                                with_reducible rfl
                              rotate_left
                              · simp only [Act.put, List.setIfInBounds_toArray, List.set_cons_zero, List.set_cons_succ, i64_w, i32_w]
                                rfl
                              refine pure_ (i := 6) (N := some 53) (v := ?_) (a' := ?_) #[true, true, true, true, false, true, true, false, false, false, false, false, false] rfl rfl (any_of HT_.out (by kernel_rfl)) (fun _ _ _ h => h) (Or.inl ⟨by rfl, ?_⟩) ?_ ?_
                              rotate_left
                              · intro w'
                                go_simp
                                with_reducible rfl
                              rotate_left
                              · simp only [Act.put, List.setIfInBounds_toArray, List.set_cons_zero, List.set_cons_succ, i64_w, i32_w]
                                rfl
                              refine pure_ (i := 7) (N := some 54) (v := ?_) (a' := ?_) #[true, true, true, true, false, true, true, true, false, false, false, false, false] rfl rfl (any_of HT_.out (by kernel_rfl)) (fun _ _ _ h => h) (Or.inl ⟨by rfl, ?_⟩) ?_ ?_
                              rotate_left
                              · intro w'
                                go_simp
                                with_reducible rfl
                              rotate_left
                              · simp only [Act.put, List.setIfInBounds_toArray, List.set_cons_zero, List.set_cons_succ, i64_w, i32_w]
                                rfl
                              refine pure_ (i := 8) (N := some 55) (v := ?_) (a' := ?_) #[true, true, true, true, false, true, true, true, true, false, false, false, false] rfl rfl (any_of HT_.out (by kernel_rfl)) (fun _ _ _ h => h) (Or.inl ⟨by rfl, ?_⟩) ?_ ?_
                              rotate_left
                              · intro w'
                                go_simp
                                with_reducible rfl
                              rotate_left
                              · simp only [Act.put, List.setIfInBounds_toArray, List.set_cons_zero, List.set_cons_succ, i64_w, i32_w]
                                rfl
                              refine one_ (i := 4) (N := some 51) #[true, true, true, true, true, true, true, true, true, false, false, false, false] rfl rfl (one_of HT_.out (by kernel_rfl)) (by decide) (fun K hK => ?_)
                              refine goes_ Try.func41 (by kernel_rfl) rfl #[.string (x5_1 ++ (a0.extract (x6_1 : Int).toNat ((wrap64 (x6_1 + (wrap64 (bt a0 (ji3))))) : Int).toNat))] (by rfl) rfl rfl (by (try simp only [List.map_toArray, List.map_cons, List.map_nil]); first | done | (simp only [hji3]; rfl) | rfl | (simp only [List.length_drop, List.length_take]; rfl)) ?_
                              with_reducible refine (cofferref05_groups.calls k1 (x5_1 ++ (a0.extract (x6_1 : Int).toNat ((wrap64 (x6_1 + (wrap64 (bt a0 (ji3))))) : Int).toNat)) t175 _ A19.out).mono ?_
                              rintro e w24 ⟨rfl, hb⟩
                              refine ⟨_, rfl, ?_⟩
                              have n0_ := Aside0.mk (below_step (by repeat (first | (with_reducible first | exact HB.out | apply below_alloc | apply pw_below_drewN | apply below_drew1) | exact HB.out)) hb)
                              clear HB
                              have HB := n0_
                              clear n0_
                              (try clear hb)
                              (try clear hb2)
                              (try clear hk)
                              (try clear hi)
                              refine hK.out _ _ trivial (fun hHeld => ?_)
                              clear hK K
                              refine norm_ (a' := ?_) ?_ ?_
                              rotate_left
                              · show Act.put _ (some 51) _ = _
                                simp only [Act.put, List.setIfInBounds_toArray, List.set_cons_zero, List.set_cons_succ, i64_w, i32_w]
                                rfl
                              refine pure_ (i := 9) (N := some 56) (v := ?_) (a' := ?_) #[true, true, true, true, true, true, true, true, true, true, false, false, false] rfl rfl (any_of HT_.out (by kernel_rfl)) (fun _ _ _ h => h) (Or.inl ⟨by rfl, ?_⟩) ?_ ?_
                              rotate_left
                              · intro w'
                                go_simp
                                with_reducible rfl
                              rotate_left
                              · simp only [Act.put, List.setIfInBounds_toArray, List.set_cons_zero, List.set_cons_succ, i64_w, i32_w]
                                rfl
                              refine pure_ (i := 10) (N := some 2) (v := ?_) (a' := ?_) #[true, true, true, true, true, true, true, true, true, true, true, false, false] rfl rfl (any_of HT_.out (by kernel_rfl)) (fun _ _ _ h => h) (Or.inl ⟨by rfl, ?_⟩) ?_ ?_
                              rotate_left
                              · intro w'
                                go_simp
                                with_reducible rfl
                              rotate_left
                              · simp only [Act.put, List.setIfInBounds_toArray, List.set_cons_zero, List.set_cons_succ, i64_w, i32_w]
                                rfl
                              refine pure_ (i := 11) (N := some 3) (v := ?_) (a' := ?_) #[true, true, true, true, true, true, true, true, true, true, true, true, false] rfl rfl (any_of HT_.out (by kernel_rfl)) (fun _ _ _ h => h) (Or.inl ⟨by rfl, ?_⟩) ?_ ?_
                              rotate_left
                              · intro w'
                                go_simp
                                with_reducible rfl
                              rotate_left
                              · simp only [Act.put, List.setIfInBounds_toArray, List.set_cons_zero, List.set_cons_succ, i64_w, i32_w]
                                rfl
                              refine pure_ (i := 12) (N := some 4) (v := ?_) (a' := ?_) #[true, true, true, true, true, true, true, true, true, true, true, true, true] rfl rfl (any_of HT_.out (by kernel_rfl)) (fun _ _ _ h => h) (Or.inl ⟨by rfl, ?_⟩) ?_ ?_
                              rotate_left
                              · intro w'
                                go_simp
                                with_reducible rfl
                              rotate_left
                              · simp only [Act.put, List.setIfInBounds_toArray, List.set_cons_zero, List.set_cons_succ, i64_w, i32_w]
                                rfl
                              refine done_ (done_of HT_.out (by kernel_rfl)) ?_
                              try go_wp2
                              go_ret3
                              exact ⟨by first | rfl | (simp [errW_none, errW_some] <;> rfl) | (simp only [← hji3, ← hji20]; first | rfl | (simp [errW_none, errW_some] <;> rfl)) | (simp [*, errW_none, errW_some] <;> rfl), by repeat (first | (with_reducible first | exact HB.out | apply below_alloc | apply pw_below_drewN | apply below_drew1) | exact HB.out)⟩
                            · rw [if_neg c21] at H
                              exact absurd H (by simp)
                          · rw [if_neg c18] at H
                            exact absurd H (by simp)
                        · rw [if_neg c17] at H
                          exact absurd H (by simp)
                      · rw [if_neg c16] at H
                        exact absurd H (by simp)
                    · rw [if_neg c15] at H
                      exact absurd H (by simp)
                · rw [if_neg c13] at H
                  have c13b0 : ((wrap64 (bt a0 (ji3))) == 0) = false := beq_eq_false_iff_ne.mpr c13
                  have c13b1 : ((wrap64 (bt a0 (ji3))) != 0) = true := bne_iff_ne.mpr c13
                  by_cases c25 : 0 ≤ x6_1
                  · rw [if_pos c25] at H
                    have c25b0 := eq_true c25
                    have c25b1 : decide (0 ≤ x6_1) = true := decide_eq_true c25
                    clear c25
                    by_cases c26 : x6_1 ≤ (wrap64 (x6_1 + (wrap64 (bt a0 (ji3)))))
                    · rw [if_pos c26] at H
                      have c26b0 := eq_true c26
                      have c26b1 : decide (x6_1 ≤ (wrap64 (x6_1 + (wrap64 (bt a0 (ji3)))))) = true := decide_eq_true c26
                      by_cases c27 : (wrap64 (x6_1 + (wrap64 (bt a0 (ji3))))) ≤ (a0.size : Int)
                      · rw [if_pos c27] at H
                        have c27b0 := eq_true c27
                        have c27b1 : decide ((wrap64 (x6_1 + (wrap64 (bt a0 (ji3))))) ≤ (a0.size : Int)) = true := decide_eq_true c27
                        by_cases c28 : x5_1.size + (a0.extract (x6_1 : Int).toNat ((wrap64 (x6_1 + (wrap64 (bt a0 (ji3))))) : Int).toNat).size ≤ 9223372036854775807
                        · rw [if_pos c28] at H
                          have c28b0 := eq_true c28
                          have c28b1 : decide (x5_1.size + (a0.extract (x6_1 : Int).toNat ((wrap64 (x6_1 + (wrap64 (bt a0 (ji3))))) : Int).toNat).size ≤ 9223372036854775807) = true := decide_eq_true c28
                          try have c28b2 : (9223372036854775807 < x5_1.size + (a0.extract (x6_1 : Int).toNat ((wrap64 (x6_1 + (wrap64 (bt a0 (ji3))))) : Int).toNat).size) = False := eq_false (Nat.not_lt.2 c28)
                          replace H := Option.bind_eq_some_iff.mp H
                          obtain ⟨t176, A290, H⟩ := H
                          replace H : (if 0 ≤ (wrap64 (x6_1 + 9)) then (some (x5_1 ++ (a0.extract (x6_1 : Int).toNat ((wrap64 (x6_1 + (wrap64 (bt a0 (ji3))))) : Int).toNat), wrap64 (x6_1 + 9), (t176.toList == (a0.extract 0 ((wrap64 (x6_1 + 9)) : Int).toNat).toList))) else (none)) = some (r1, r2, r3) := H
                          have A29 := Aside0.mk A290
                          clear A290
                          obtain ⟨ji30, hji30⟩ : ∃ j_ : Int, (wrap64 (x6_1 + 9)) = j_ := ⟨_, rfl⟩
                          replace H : (if 0 ≤ (ji30) then (some (x5_1 ++ (a0.extract (x6_1 : Int).toNat ((wrap64 (x6_1 + (wrap64 (bt a0 (ji3))))) : Int).toNat), ji30, (t176.toList == (a0.extract 0 ((ji30) : Int).toNat).toList))) else (none)) = some (r1, r2, r3) := by first | (rw [hji30] at H; exact H) | (simp only [hji30] at H ⊢; exact H)
                          (try rw [hji30] at c2b0)
                          (try rw [hji30] at A29)
                          have hji30w : (IntKind.i64.wrap (x6_1 + 9)) = ji30 := (i64_w _).trans hji30
                          by_cases c31 : 0 ≤ (ji30)
                          · rw [if_pos c31] at H
                            have c31b0 := eq_true c31
                            have c31b1 : decide (0 ≤ (ji30)) = true := decide_eq_true c31
                            clear c31
                            have c32b0 := eq_true (of_decide_eq_true (by first | (with_reducible assumption) | assumption) : (ji30) ≤ (a0.size : Int))
                            simp only [Option.some.injEq, Prod.mk.injEq] at H
                            obtain ⟨rfl, rfl, rfl⟩ := H
                            have p6 : 0 ≤ ((ji3) : Int) := of_decide_eq_true (by first | (with_reducible assumption) | assumption)
                            have q6 : (ji3) < (a0.size : Int) := of_decide_eq_true (by first | (with_reducible assumption) | assumption)
                            have hx6 := bt_at a0 (ji3)
                            replace p6 := eq_true p6
                            replace q6 := eq_true q6
                            try go_wp2
                            have n0_ := Aside0.mk (below_drew1 HB.out)
                            clear HB
                            have HB := n0_
                            clear n0_
                            refine start_ (n := 13) (S := fun w' => True) (ds := []) #[false, false, false, false, false, false, false, false, false, false, false, false, false] (by kernel_rfl) rfl rfl trivial (fun hHeld => ?_); refine with_tabW cofferref05_text.tab11 cofferref05_text.bits11 (fun HT_ HW_ => ?_)
                            generalize wr.drew = w33 at HB hHeld ⊢
                            refine pure_ (i := 0) (N := some 47) (v := ?_) (a' := ?_) #[true, false, false, false, false, false, false, false, false, false, false, false, false] rfl rfl (any_of HT_.out (by kernel_rfl)) (fun _ _ _ h => h) (Or.inl ⟨by rfl, ?_⟩) ?_ ?_
                            rotate_left
                            · intro w'
                              go_simp
                              with_reducible rfl
                            rotate_left
                            · simp only [Act.put, List.setIfInBounds_toArray, List.set_cons_zero, List.set_cons_succ, i64_w, i32_w]
                              rfl
                            refine pure_ (i := 1) (N := some 48) (v := ?_) (a' := ?_) #[true, true, false, false, false, false, false, false, false, false, false, false, false] rfl rfl (any_of HT_.out (by kernel_rfl)) (fun _ _ _ h => h) (Or.inl ⟨by rfl, ?_⟩) ?_ ?_
                            rotate_left
                            · intro w'
                              go_simp
                              with_reducible rfl
                            rotate_left
                            · simp only [Act.put, List.setIfInBounds_toArray, List.set_cons_zero, List.set_cons_succ, i64_w, i32_w]
                              rfl
                            refine pure_ (i := 2) (N := some 49) (v := ?_) (a' := ?_) #[true, true, true, false, false, false, false, false, false, false, false, false, false] rfl rfl (any_of HT_.out (by kernel_rfl)) (fun _ _ _ h => h) (Or.inl ⟨by rfl, ?_⟩) ?_ ?_
                            rotate_left
                            · intro w'
                              go_simp
                              with_reducible rfl
                            rotate_left
                            · simp only [Act.put, List.setIfInBounds_toArray, List.set_cons_zero, List.set_cons_succ, i64_w, i32_w]
                              rfl
                            refine pure_ (i := 3) (N := some 50) (v := ?_) (a' := ?_) #[true, true, true, true, false, false, false, false, false, false, false, false, false] rfl rfl (any_of HT_.out (by kernel_rfl)) (fun _ _ _ h => h) (Or.inl ⟨by rfl, ?_⟩) ?_ ?_
                            rotate_left
                            · intro w'
                              go_simp
                              with_reducible rfl
                            rotate_left
                            · simp only [Act.put, List.setIfInBounds_toArray, List.set_cons_zero, List.set_cons_succ, i64_w, i32_w]
                              rfl
                            refine pure_ (i := 5) (N := some 52) (v := ?_) (a' := ?_) #[true, true, true, true, false, true, false, false, false, false, false, false, false] rfl rfl (any_of HT_.out (by kernel_rfl)) (fun _ _ _ h => h) (Or.inl ⟨by rfl, ?_⟩) ?_ ?_
                            rotate_left
                            · intro w'
                              go_simp
                              with_reducible rfl
                            rotate_left
                            · simp only [Act.put, List.setIfInBounds_toArray, List.set_cons_zero, List.set_cons_succ, i64_w, i32_w]
                              rfl
                            refine pure_ (i := 6) (N := some 53) (v := ?_) (a' := ?_) #[true, true, true, true, false, true, true, false, false, false, false, false, false] rfl rfl (any_of HT_.out (by kernel_rfl)) (fun _ _ _ h => h) (Or.inl ⟨by rfl, ?_⟩) ?_ ?_
                            rotate_left
                            · intro w'
                              go_simp
                              with_reducible rfl
                            rotate_left
                            · simp only [Act.put, List.setIfInBounds_toArray, List.set_cons_zero, List.set_cons_succ, i64_w, i32_w]
                              rfl
                            refine pure_ (i := 7) (N := some 54) (v := ?_) (a' := ?_) #[true, true, true, true, false, true, true, true, false, false, false, false, false] rfl rfl (any_of HT_.out (by kernel_rfl)) (fun _ _ _ h => h) (Or.inl ⟨by rfl, ?_⟩) ?_ ?_
                            rotate_left
                            · intro w'
                              go_simp
                              with_reducible rfl
                            rotate_left
                            · simp only [Act.put, List.setIfInBounds_toArray, List.set_cons_zero, List.set_cons_succ, i64_w, i32_w]
                              rfl
                            refine pure_ (i := 8) (N := some 55) (v := ?_) (a' := ?_) #[true, true, true, true, false, true, true, true, true, false, false, false, false] rfl rfl (any_of HT_.out (by kernel_rfl)) (fun _ _ _ h => h) (Or.inl ⟨by rfl, ?_⟩) ?_ ?_
                            rotate_left
                            · intro w'
                              go_simp
                              with_reducible rfl
                            rotate_left
                            · simp only [Act.put, List.setIfInBounds_toArray, List.set_cons_zero, List.set_cons_succ, i64_w, i32_w]
                              rfl
                            refine one_ (i := 4) (N := some 51) #[true, true, true, true, true, true, true, true, true, false, false, false, false] rfl rfl (one_of HT_.out (by kernel_rfl)) (by decide) (fun K hK => ?_)
                            refine goes_ Try.func41 (by kernel_rfl) rfl #[.string (x5_1 ++ (a0.extract (x6_1 : Int).toNat ((wrap64 (x6_1 + (wrap64 (bt a0 (ji3))))) : Int).toNat))] (by rfl) rfl rfl (by (try simp only [List.map_toArray, List.map_cons, List.map_nil]); first | done | (simp only [hji3]; rfl) | rfl | (simp only [List.length_drop, List.length_take]; rfl)) ?_
                            with_reducible refine (cofferref05_groups.calls k1 (x5_1 ++ (a0.extract (x6_1 : Int).toNat ((wrap64 (x6_1 + (wrap64 (bt a0 (ji3))))) : Int).toNat)) t176 _ A29.out).mono ?_
                            rintro e w34 ⟨rfl, hb⟩
                            refine ⟨_, rfl, ?_⟩
                            have n0_ := Aside0.mk (below_step (by repeat (first | (with_reducible first | exact HB.out | apply below_alloc | apply pw_below_drewN | apply below_drew1) | exact HB.out)) hb)
                            clear HB
                            have HB := n0_
                            clear n0_
                            (try clear hb)
                            (try clear hb2)
                            (try clear hk)
                            (try clear hi)
                            refine hK.out _ _ trivial (fun hHeld => ?_)
                            clear hK K
                            refine norm_ (a' := ?_) ?_ ?_
                            rotate_left
                            · show Act.put _ (some 51) _ = _
                              simp only [Act.put, List.setIfInBounds_toArray, List.set_cons_zero, List.set_cons_succ, i64_w, i32_w]
                              rfl
                            refine pure_ (i := 9) (N := some 56) (v := ?_) (a' := ?_) #[true, true, true, true, true, true, true, true, true, true, false, false, false] rfl rfl (any_of HT_.out (by kernel_rfl)) (fun _ _ _ h => h) (Or.inl ⟨by rfl, ?_⟩) ?_ ?_
                            rotate_left
                            · intro w'
                              go_simp
                              with_reducible rfl
                            rotate_left
                            · simp only [Act.put, List.setIfInBounds_toArray, List.set_cons_zero, List.set_cons_succ, i64_w, i32_w]
                              rfl
                            refine pure_ (i := 10) (N := some 2) (v := ?_) (a' := ?_) #[true, true, true, true, true, true, true, true, true, true, true, false, false] rfl rfl (any_of HT_.out (by kernel_rfl)) (fun _ _ _ h => h) (Or.inl ⟨by rfl, ?_⟩) ?_ ?_
                            rotate_left
                            · intro w'
                              go_simp
                              with_reducible rfl
                            rotate_left
                            · simp only [Act.put, List.setIfInBounds_toArray, List.set_cons_zero, List.set_cons_succ, i64_w, i32_w]
                              rfl
                            refine pure_ (i := 11) (N := some 3) (v := ?_) (a' := ?_) #[true, true, true, true, true, true, true, true, true, true, true, true, false] rfl rfl (any_of HT_.out (by kernel_rfl)) (fun _ _ _ h => h) (Or.inl ⟨by rfl, ?_⟩) ?_ ?_
                            rotate_left
                            · intro w'
                              go_simp
                              with_reducible rfl
                            rotate_left
                            · simp only [Act.put, List.setIfInBounds_toArray, List.set_cons_zero, List.set_cons_succ, i64_w, i32_w]
                              rfl
                            refine pure_ (i := 12) (N := some 4) (v := ?_) (a' := ?_) #[true, true, true, true, true, true, true, true, true, true, true, true, true] rfl rfl (any_of HT_.out (by kernel_rfl)) (fun _ _ _ h => h) (Or.inl ⟨by rfl, ?_⟩) ?_ ?_
                            rotate_left
                            · intro w'
                              go_simp
                              with_reducible rfl
                            rotate_left
                            · simp only [Act.put, List.setIfInBounds_toArray, List.set_cons_zero, List.set_cons_succ, i64_w, i32_w]
                              rfl
                            refine done_ (done_of HT_.out (by kernel_rfl)) ?_
                            try go_wp2
                            go_ret3
                            exact ⟨by first | rfl | (simp [errW_none, errW_some] <;> rfl) | (simp only [← hji3, ← hji30]; first | rfl | (simp [errW_none, errW_some] <;> rfl)) | (simp [*, errW_none, errW_some] <;> rfl), by repeat (first | (with_reducible first | exact HB.out | apply below_alloc | apply pw_below_drewN | apply below_drew1) | exact HB.out)⟩
                          · rw [if_neg c31] at H
                            exact absurd H (by simp)
                        · rw [if_neg c28] at H
                          exact absurd H (by simp)
                      · rw [if_neg c27] at H
                        exact absurd H (by simp)
                    · rw [if_neg c26] at H
                      exact absurd H (by simp)
                  · rw [if_neg c25] at H
                    exact absurd H (by simp)
          · rw [if_neg c5] at H
            exact absurd H (by simp)
        · rw [if_neg c4] at H
          exact absurd H (by simp)
      · rw [if_neg c2] at H
        have c2b0 : decide ((wrap64 (x6_1 + 9)) ≤ (a0.size : Int)) = false := decide_eq_false c2
        clear c2
        simp only [Option.some.injEq, Prod.mk.injEq] at H
        obtain ⟨rfl, rfl, rfl⟩ := H
        go_wp2
        go_ret3
        exact ⟨by first | rfl | (simp [errW_none, errW_some] <;> rfl) | (simp [*, errW_none, errW_some] <;> rfl), by repeat (first | (with_reducible first | exact HB.out | apply below_alloc | apply pw_below_drewN | apply below_drew1) | exact HB.out)⟩

end Go.Proofs.Ytbohpjbcjnapfaa.X
