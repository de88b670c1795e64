-- By a program of this session (wip/xprint.py over the kit's print).
import Derived.Test.YtcmjpdfkacmogaaX0
namespace Go.Proofs.Ytcmjpdfkacmogaa.X
open Go.RowKit Go.Proofs.YtcmjpdfkacmogaaW.PrintWords Go.Proofs.YtcmjpdfkacmogaaW.PrintLast Go.Proofs.YtcmjpdfkacmogaaW.PrintMore
attribute [local go_sem] max2_int min2_int max_two min_two max_three min_three max_four min_four Go.Proofs.Ytcmjpdfkacmogaa.Z.leq_string Go.Proofs.Ytcmjpdfkacmogaa.Z.gtr_string Go.Proofs.Ytcmjpdfkacmogaa.Z.geq_string   -- for this text's walks alone
set_option linter.unusedVariables false
set_option linter.unusedSimpArgs false

/-! ### cofferlaw02_grown: function 10 -/
def cofferlaw02_grown.l0 : Nat → ByteArray → Int → ByteArray → Int → Option (ByteArray)
  | 0, _, _, _, _ => none
  | k + 1, x0, x1, x5, x6 => if x6 < x1 then (if (x5.size : Int) < 5000 then (if x0.toList = ([] : List UInt8) then (some x5) else (if x5.size + x0.size ≤ 9223372036854775807 then (cofferlaw02_grown.l0 k x0 x1 (x5 ++ x0) (wrap64 (x6 + 1))) else (none))) else (some x5)) else (some x5)
def cofferlaw02_grown.f (k : Nat) (a0 : ByteArray) (a1 : Int) : Option (ByteArray) := cofferlaw02_grown.l0 k a0 a1 a0 1
theorem cofferlaw02_grown.mono_l : ∀ k, (∀ y0 y1 y2 y3, LeO (cofferlaw02_grown.l0 k y0 y1 y2 y3) (cofferlaw02_grown.l0 (k + 1) y0 y1 y2 y3))
  | 0 => fun _ _ _ _ r h => by simp [cofferlaw02_grown.l0] at h
  | k + 1 => by
    have ih0 := cofferlaw02_grown.mono_l k
    · intro y0 y1 y2 y3
      unfold cofferlaw02_grown.l0
      repeat' first
      | (with_reducible exact ih0 _ _ _ _)
      | (with_reducible exact LeO.refl _)
      | (with_reducible exact LeO.none _)
      | (with_reducible refine LeO.ite ?_ ?_)
      | (with_reducible refine LeO.bind ?_ (fun _ => ?_))
      | exact ih0 _ _ _ _
      | exact LeO.none _
      | refine LeO.ite ?_ ?_
      | refine LeO.bind ?_ (fun _ => ?_)
theorem cofferlaw02_grown.mono : ∀ a0 a1 k, LeO (cofferlaw02_grown.f k a0 a1) (cofferlaw02_grown.f (k + 1) a0 a1) := by
  intro a0 a1 k
  have ih0 := cofferlaw02_grown.mono_l k
  unfold cofferlaw02_grown.f
  repeat' first
      | (with_reducible exact ih0 _ _ _ _)
      | (with_reducible exact LeO.refl _)
      | (with_reducible exact LeO.none _)
      | (with_reducible refine LeO.ite ?_ ?_)
      | (with_reducible refine LeO.bind ?_ (fun _ => ?_))
      | exact ih0 _ _ _ _
      | exact LeO.none _
      | refine LeO.ite ?_ ?_
      | refine LeO.bind ?_ (fun _ => ?_)
set_option maxHeartbeats 8000000 in
set_option maxRecDepth 100000 in
theorem cofferlaw02_grown.calls (k : Nat) (a0 : ByteArray) (a1 : Int) (r : ByteArray) (w : World) (h : cofferlaw02_grown.f k a0 a1 = some r) :
    Calls Try.prog 10 #[.string a0, .int .i64 a1] w fun e w' => e = .returned (.string r) ∧ Drawn0 w w' := by
  have H : (cofferlaw02_grown.l0 k a0 a1 a0 1) = some r := h
  clear h
  have H' := Aside0.mk H
  clear H
  go_enter Try.func10, Try.ntmps10
  go_wp2
  go_loopg [5, 6] k (fun kq v5 v6 w' => ∃ (x5_1 : ByteArray) (x6_1 : Int), v5 = .string x5_1 ∧ v6 = .int .i64 x6_1 ∧ Aside0 (cofferlaw02_grown.l0 kq a0 a1 x5_1 x6_1 = some r) ∧ Aside0 (kq ≤ k) ∧ Drawn0 w w')
  case atStart => exact ⟨(a0), (1), (by first | rfl | (simp; done) | (simp [Go.Proofs.Ytcmjpdfkacmogaa.Z.bne_nil, Go.Proofs.Ytcmjpdfkacmogaa.Z.beq_nil]; done) | (simp [*]; done)), (by first | rfl | (simp; done) | (simp [Go.Proofs.Ytcmjpdfkacmogaa.Z.bne_nil, Go.Proofs.Ytcmjpdfkacmogaa.Z.beq_nil]; done) | (simp [*]; done)), H', ⟨Nat.le_refl _⟩, by repeat (first | exact Drawn0.refl _ | apply Drawn0.step)⟩
  case round =>
    clear H'
    try clear c1
    try clear p2
    obtain ⟨x5_1, x6_1, rfl, rfl, HA, HK1, ⟨m1, rfl⟩⟩ := hrel
    cases gk with
    | zero => exact absurd HA.out (by simp [cofferlaw02_grown.l0])
    | succ k1 =>
      have H := HA.out
      clear HA
      simp only [cofferlaw02_grown.l0] at H
      by_cases c3 : x6_1 < a1
      · rw [if_pos c3] at H
        have c3b0 : decide (x6_1 < a1) = true := decide_eq_true c3
        clear c3
        by_cases c4 : (x5_1.size : Int) < 5000
        · rw [if_pos c4] at H
          have c4b0 : decide ((x5_1.size : Int) < 5000) = true := decide_eq_true c4
          have c4b1 : decide (x5_1.size < 5000) = true := decide_eq_true (by omega)
          clear c4
          by_cases c5 : a0.toList = ([] : List UInt8)
          · rw [if_pos c5] at H
            have c5b0 : (a0.toList == ([] : List UInt8)) = true := beq_iff_eq.mpr c5
            have c5b1 : (a0.toList != ([] : List UInt8)) = false := bne_eq_false_iff_eq.mpr c5
            clear c5
            obtain rfl := Option.some.inj H
            go_wp2
            go_ret
            exact ⟨by first | rfl | (simp; done) | (simp [*]; done), by repeat (first | exact Drawn0.refl _ | apply Drawn0.step)⟩
          · rw [if_neg c5] at H
            have c5b0 : (a0.toList == ([] : List UInt8)) = false := beq_eq_false_iff_ne.mpr c5
            have c5b1 : (a0.toList != ([] : List UInt8)) = true := bne_iff_ne.mpr c5
            by_cases c6 : x5_1.size + a0.size ≤ 9223372036854775807
            · rw [if_pos c6] at H
              have c6b0 := eq_true c6
              have c6b1 : decide (x5_1.size + a0.size ≤ 9223372036854775807) = true := decide_eq_true c6
              try have c6b2 : (9223372036854775807 < x5_1.size + a0.size) = False := eq_false (Nat.not_lt.2 c6)
              have H' := Aside0.mk H
              clear H
              go_wp2
              go_roundg k1
              case measure => have := HK1.out; omega
              case rel => exact ⟨(x5_1 ++ a0), (wrap64 (x6_1 + 1)), (by first | rfl | (simp; done) | (simp [Go.Proofs.Ytcmjpdfkacmogaa.Z.bne_nil, Go.Proofs.Ytcmjpdfkacmogaa.Z.beq_nil]; done) | (simp [*]; done)), (by first | rfl | (simp; done) | (simp [Go.Proofs.Ytcmjpdfkacmogaa.Z.bne_nil, Go.Proofs.Ytcmjpdfkacmogaa.Z.beq_nil]; done) | (simp [*]; done)), H', ⟨by have := HK1.out; omega⟩, by repeat (first | exact Drawn0.refl _ | apply Drawn0.step)⟩
            · rw [if_neg c6] at H
              exact absurd H (by simp)
        · rw [if_neg c4] at H
          have c4b0 : decide ((x5_1.size : Int) < 5000) = false := decide_eq_false c4
          have c4b1 : decide (x5_1.size < 5000) = false := decide_eq_false (by omega)
          clear c4
          obtain rfl := Option.some.inj H
          go_wp2
          go_ret
          exact ⟨by first | rfl | (simp; done) | (simp [*]; done), by repeat (first | exact Drawn0.refl _ | apply Drawn0.step)⟩
      · rw [if_neg c3] at H
        have c3b0 : decide (x6_1 < a1) = false := decide_eq_false c3
        clear c3
        obtain rfl := Option.some.inj H
        go_wp2
        go_ret
        exact ⟨by first | rfl | (simp; done) | (simp [*]; done), by repeat (first | exact Drawn0.refl _ | apply Drawn0.step)⟩

end Go.Proofs.Ytcmjpdfkacmogaa.X
