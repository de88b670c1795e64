-- By a program of this session (wip/xprint.py over the kit's print).
import Derived.Test.YtbohpjbcjnapfaaX0
import Derived.Test.YtbohpjbcjnapfaaX1
import Derived.Test.YtbohpjbcjnapfaaX41
namespace Go.Proofs.Ytbohpjbcjnapfaa.X
open Go.RowKit Go.Proofs.YtbohpjbcjnapfaaW.PrintWords Go.Proofs.YtbohpjbcjnapfaaW.PrintLast Go.Proofs.YtbohpjbcjnapfaaW.PrintMore
attribute [local go_sem] max2_int min2_int max_two min_two max_three min_three max_four min_four Go.Proofs.Ytbohpjbcjnapfaa.Z.leq_string Go.Proofs.Ytbohpjbcjnapfaa.Z.gtr_string Go.Proofs.Ytbohpjbcjnapfaa.Z.geq_string   -- for this text's walks alone
set_option linter.unusedVariables false
set_option linter.unusedSimpArgs false

attribute [local go_sem high] eqA52
/-! ### cofferlaw05_stays: function 18 -/
def cofferlaw05_stays.f (k : Nat) (l0 : List (S52)) (l1 : List (S58)) : Option (Bool) := if (l0.length : Int) = (wrap64 ((l1.length : Int) + 2)) then (if 0 ≤ (l1.length : Int) then (if (l1.length : Int) < (l0.length : Int) then (if (!(((rd_T52 l0 (l1.length : Int)).f0) == 77) || (!((((rd_T52 l0 (l1.length : Int)).f1).toList) == ([] : List UInt8)) || (!(((rd_T52 l0 (l1.length : Int)).f2) == 0)))) = true then (some false) else (if 0 ≤ (wrap64 ((l1.length : Int) + 1)) then (if (wrap64 ((l1.length : Int) + 1)) < (l0.length : Int) then (if (!(((rd_T52 l0 (wrap64 ((l1.length : Int) + 1))).f0) == 0) || (!((((rd_T52 l0 (wrap64 ((l1.length : Int) + 1))).f1).toList) == ([109, 97, 114, 107] : List UInt8)) || (!(((rd_T52 l0 (wrap64 ((l1.length : Int) + 1))).f2) == 0)))) = true then (some false) else (if (l1.length : Int) ≤ (l0.length : Int) then ((cofferlaw05_same.f k (l0.take ((l1.length : Int) : Int).toNat) l1).bind fun t253 => (some t253)) else (none))) else (none)) else (none))) else (none)) else (none)) else (some false)
theorem cofferlaw05_stays.mono : ∀ a0 a1 k, LeO (cofferlaw05_stays.f k a0 a1) (cofferlaw05_stays.f (k + 1) a0 a1) := by
  intro a0 a1 k
  unfold cofferlaw05_stays.f
  repeat' first
      | (with_reducible exact cofferlaw05_same.mono _ _ _)
      | (with_reducible exact LeO.refl _)
      | (with_reducible exact LeO.none _)
      | (with_reducible refine LeO.ite ?_ ?_)
      | (with_reducible refine LeO.bind ?_ (fun _ => ?_))
      | exact cofferlaw05_same.mono _ _ _
      | exact LeO.none _
      | refine LeO.ite ?_ ?_
      | refine LeO.bind ?_ (fun _ => ?_)
set_option maxHeartbeats 8000000 in
set_option maxRecDepth 100000 in
theorem cofferlaw05_stays.calls (k : Nat) (A0 : Option Addr) (c0 : Nat) (l0 : List (S52)) (A1 : Option Addr) (c1 : Nat) (l1 : List (S58)) (r : Bool) (w : World) (hr0 : Kd.C k52 w A0 l0.length l0) (hc0 : l0.length ≤ c0) (hr1 : Kd.C k58 w A1 l1.length l1) (hc1 : l1.length ≤ c1) (h : cofferlaw05_stays.f k l0 l1 = some r) :
    Calls Try.prog 18 #[.slice A0 l0.length c0, .slice A1 l1.length c1] w fun e w' => e = .returned (.bool r) ∧ Drawn0 w w' := by
  have hu52 := Try.underlying52
  have HR0 := Aside0.mk hr0
  have HC0 := Aside0.mk hc0
  clear hr0 hc0
  have HR1 := Aside0.mk hr1
  have HC1 := Aside0.mk hc1
  clear hr1 hc1
  have H : (if (l0.length : Int) = (wrap64 ((l1.length : Int) + 2)) then (if 0 ≤ (l1.length : Int) then (if (l1.length : Int) < (l0.length : Int) then (if (!(((rd_T52 l0 (l1.length : Int)).f0) == 77) || (!((((rd_T52 l0 (l1.length : Int)).f1).toList) == ([] : List UInt8)) || (!(((rd_T52 l0 (l1.length : Int)).f2) == 0)))) = true then (some false) else (if 0 ≤ (wrap64 ((l1.length : Int) + 1)) then (if (wrap64 ((l1.length : Int) + 1)) < (l0.length : Int) then (if (!(((rd_T52 l0 (wrap64 ((l1.length : Int) + 1))).f0) == 0) || (!((((rd_T52 l0 (wrap64 ((l1.length : Int) + 1))).f1).toList) == ([109, 97, 114, 107] : List UInt8)) || (!(((rd_T52 l0 (wrap64 ((l1.length : Int) + 1))).f2) == 0)))) = true then (some false) else (if (l1.length : Int) ≤ (l0.length : Int) then ((cofferlaw05_same.f k (l0.take ((l1.length : Int) : Int).toNat) l1).bind fun t253 => (some t253)) else (none))) else (none)) else (none))) else (none)) else (none)) else (some false)) = some r := h
  clear h
  by_cases c3 : (l0.length : Int) = (wrap64 ((l1.length : Int) + 2))
  · rw [if_pos c3] at H
    have c3b0 : ((l0.length : Int) == (wrap64 ((l1.length : Int) + 2))) = true := beq_iff_eq.mpr c3
    have c3b1 : ((l0.length : Int) != (wrap64 ((l1.length : Int) + 2))) = false := bne_eq_false_iff_eq.mpr c3
    clear c3
    by_cases c4 : 0 ≤ (l1.length : Int)
    · rw [if_pos c4] at H
      have c4b0 : decide (0 ≤ (l1.length : Int)) = true := decide_eq_true c4
      have c4b1 : decide (0 ≤ l1.length) = true := decide_eq_true (by omega)
      clear c4
      by_cases c5 : (l1.length : Int) < (l0.length : Int)
      · rw [if_pos c5] at H
        have c5b0 : decide ((l1.length : Int) < (l0.length : Int)) = true := decide_eq_true c5
        have c5b1 : decide (l1.length < l0.length) = true := decide_eq_true (Int.ofNat_lt.mp c5)
        clear c5
        by_cases c6 : (!(((rd_T52 l0 (l1.length : Int)).f0) == 77) || (!((((rd_T52 l0 (l1.length : Int)).f1).toList) == ([] : List UInt8)) || (!(((rd_T52 l0 (l1.length : Int)).f2) == 0)))) = true
        · rw [if_pos c6] at H
          have c6b0 : (!(((rd_T52 l0 (l1.length : Int)).f0) == 77) || (!((((rd_T52 l0 (l1.length : Int)).f1).toList) == ([] : List UInt8)) || (!(((rd_T52 l0 (l1.length : Int)).f2) == 0)))) = true := c6
          have c6e : (!(((rd_T52 l0 (l1.length : Int)).f0) == 77) || (!((((rd_T52 l0 (l1.length : Int)).f1).toList).isEmpty) || (!(((rd_T52 l0 (l1.length : Int)).f2) == 0)))) = true := by have h_ := c6b0; rw [Go.Proofs.Ytbohpjbcjnapfaa.Z.beq_nil] at h_; exact h_
          clear c6
          obtain rfl := Option.some.inj H
          have p247 : 0 ≤ ((l1.length : Int) : Int) := of_decide_eq_true (by first | (with_reducible assumption) | assumption)
          have q247 : (l1.length : Int) < (l0.length : Int) := of_decide_eq_true (by first | (with_reducible assumption) | assumption)
          obtain ⟨ad247, e247, hx247_0, hx247_1, hx247_2⟩ := at_T52 HR0.out (l1.length : Int) p247 q247
          cases e247
          (try simp only [Go.IntWalk.toNatUp] at hx247_0)
          (try simp only [Go.IntWalk.toNatUp] at hx247_1)
          (try simp only [Go.IntWalk.toNatUp] at hx247_2)
          replace p247 := eq_true p247
          replace q247 := eq_true q247
          go_enter Try.func18, Try.ntmps18
          go_wp2
          go_ret
          exact ⟨by first | rfl | (simp; done) | (simp [*]; done), by repeat (first | exact Drawn0.refl _ | apply Drawn0.step)⟩
        · rw [if_neg c6] at H
          have c6b0 : (!(((rd_T52 l0 (l1.length : Int)).f0) == 77) || (!((((rd_T52 l0 (l1.length : Int)).f1).toList) == ([] : List UInt8)) || (!(((rd_T52 l0 (l1.length : Int)).f2) == 0)))) = false := by simpa using c6
          have c6e : (!(((rd_T52 l0 (l1.length : Int)).f0) == 77) || (!((((rd_T52 l0 (l1.length : Int)).f1).toList).isEmpty) || (!(((rd_T52 l0 (l1.length : Int)).f2) == 0)))) = false := by have h_ := c6b0; rw [Go.Proofs.Ytbohpjbcjnapfaa.Z.beq_nil] at h_; exact h_
          clear c6
          obtain ⟨ji7, hji7⟩ : ∃ j_ : Int, (wrap64 ((l1.length : Int) + 1)) = j_ := ⟨_, rfl⟩
          replace H : (if 0 ≤ (ji7) then (if (ji7) < (l0.length : Int) then (if (!(((rd_T52 l0 (ji7)).f0) == 0) || (!((((rd_T52 l0 (ji7)).f1).toList) == ([109, 97, 114, 107] : List UInt8)) || (!(((rd_T52 l0 (ji7)).f2) == 0)))) = true then (some false) else (if (l1.length : Int) ≤ (l0.length : Int) then ((cofferlaw05_same.f k (l0.take ((l1.length : Int) : Int).toNat) l1).bind fun t253 => (some t253)) else (none))) else (none)) else (none)) = some r := by first | (rw [hji7] at H; exact H) | (simp only [hji7] at H ⊢; exact H)
          have hji7w : (IntKind.i64.wrap ((l1.length : Int) + 1)) = ji7 := (i64_w _).trans hji7
          by_cases c8 : 0 ≤ (ji7)
          · rw [if_pos c8] at H
            have c8b0 : decide (0 ≤ (ji7)) = true := decide_eq_true c8
            clear c8
            by_cases c9 : (ji7) < (l0.length : Int)
            · rw [if_pos c9] at H
              have c9b0 : decide ((ji7) < (l0.length : Int)) = true := decide_eq_true c9
              clear c9
              by_cases c10 : (!(((rd_T52 l0 (ji7)).f0) == 0) || (!((((rd_T52 l0 (ji7)).f1).toList) == ([109, 97, 114, 107] : List UInt8)) || (!(((rd_T52 l0 (ji7)).f2) == 0)))) = true
              · rw [if_pos c10] at H
                have c10b0 : (!(((rd_T52 l0 (ji7)).f0) == 0) || (!((((rd_T52 l0 (ji7)).f1).toList) == ([109, 97, 114, 107] : List UInt8)) || (!(((rd_T52 l0 (ji7)).f2) == 0)))) = true := c10
                clear c10
                obtain rfl := Option.some.inj H
                have p247 : 0 ≤ ((l1.length : Int) : Int) := of_decide_eq_true (by first | (with_reducible assumption) | assumption)
                have q247 : (l1.length : Int) < (l0.length : Int) := of_decide_eq_true (by first | (with_reducible assumption) | assumption)
                obtain ⟨ad247, e247, hx247_0, hx247_1, hx247_2⟩ := at_T52 HR0.out (l1.length : Int) p247 q247
                cases e247
                (try simp only [Go.IntWalk.toNatUp] at hx247_0)
                (try simp only [Go.IntWalk.toNatUp] at hx247_1)
                (try simp only [Go.IntWalk.toNatUp] at hx247_2)
                replace p247 := eq_true p247
                replace q247 := eq_true q247
                have p248 : 0 ≤ ((ji7) : Int) := of_decide_eq_true (by first | (with_reducible assumption) | assumption)
                have q248 : (ji7) < (l0.length : Int) := of_decide_eq_true (by first | (with_reducible assumption) | assumption)
                obtain ⟨ad248, e248, hx248_0, hx248_1, hx248_2⟩ := at_T52 HR0.out (ji7) p248 q248
                obtain rfl : ad247 = ad248 := (by injection e248)
                replace p248 := eq_true p248
                replace q248 := eq_true q248
                go_enter Try.func18, Try.ntmps18
                go_wp2
                go_ret
                exact ⟨by first | rfl | (simp; done) | (simp only [← hji7] <;> (first | rfl | simp)) | (simp [*]; done), by repeat (first | exact Drawn0.refl _ | apply Drawn0.step)⟩
              · rw [if_neg c10] at H
                have c10b0 : (!(((rd_T52 l0 (ji7)).f0) == 0) || (!((((rd_T52 l0 (ji7)).f1).toList) == ([109, 97, 114, 107] : List UInt8)) || (!(((rd_T52 l0 (ji7)).f2) == 0)))) = false := by simpa using c10
                clear c10
                have c11b0 := eq_true (of_decide_eq_true (by first | (with_reducible assumption) | assumption) : 0 ≤ (l1.length : Int))
                by_cases c12 : (l1.length : Int) ≤ (l0.length : Int)
                · rw [if_pos c12] at H
                  have c12b0 := eq_true c12
                  have c12b1 : decide ((l1.length : Int) ≤ (l0.length : Int)) = true := decide_eq_true c12
                  clear c12
                  obtain ⟨y249, hy249⟩ : ∃ y_ : List (S52), y_ = (l0.take ((l1.length : Int) : Int).toNat) := ⟨_, rfl⟩
                  replace H : ((cofferlaw05_same.f k y249 l1).bind fun t253 => (some t253)) = some r := by first | (rw [hy249]; with_reducible exact H) | (have H2_ := (Option.bind_some _ _).symm.trans H; rw [hy249]; with_reducible exact H2_) | (have H2_ := (Option.bind_some _ _).symm.trans H; with_reducible exact H2_) | with_reducible exact H | (rw [hy249]; exact H) | exact H
                  have Ny249 := Aside0.mk hy249
                  clear hy249
                  replace H := Option.bind_eq_some_iff.mp H
                  obtain ⟨t253, A130, H⟩ := H
                  replace H : (some t253) = some r := H
                  have A13 := Aside0.mk A130
                  clear A130
                  obtain rfl := Option.some.inj H
                  have p247 : 0 ≤ ((l1.length : Int) : Int) := of_decide_eq_true (by first | (with_reducible assumption) | assumption)
                  have q247 : (l1.length : Int) < (l0.length : Int) := of_decide_eq_true (by first | (with_reducible assumption) | assumption)
                  obtain ⟨ad247, e247, hx247_0, hx247_1, hx247_2⟩ := at_T52 HR0.out (l1.length : Int) p247 q247
                  cases e247
                  (try simp only [Go.IntWalk.toNatUp] at hx247_0)
                  (try simp only [Go.IntWalk.toNatUp] at hx247_1)
                  (try simp only [Go.IntWalk.toNatUp] at hx247_2)
                  replace p247 := eq_true p247
                  replace q247 := eq_true q247
                  have p248 : 0 ≤ ((ji7) : Int) := of_decide_eq_true (by first | (with_reducible assumption) | assumption)
                  have q248 : (ji7) < (l0.length : Int) := of_decide_eq_true (by first | (with_reducible assumption) | assumption)
                  obtain ⟨ad248, e248, hx248_0, hx248_1, hx248_2⟩ := at_T52 HR0.out (ji7) p248 q248
                  obtain rfl : ad247 = ad248 := (by injection e248)
                  replace p248 := eq_true p248
                  replace q248 := eq_true q248
                  have q14 : ((l1.length : Int) : Int) ≤ ((l0.length : Int) : Int) := of_decide_eq_true (by first | (with_reducible assumption) | assumption)
                  obtain ⟨i014, hi014, _, hsz14, _⟩ := info_parts info52
                  have hroom14 : l0.length ≤ c0 := HC0.out
                  have hC14 : Kd.C k52 _ (some ad247) l0.length l0 := HR0.out
                  have hcut14 := cut_to (P := Try.prog) 30 52 .i64 Try.underlying30 hi014 (some ad247) l0.length c0 (l1.length : Int) (of_decide_eq_true (by first | (with_reducible assumption) | assumption)) q14 hroom14
                  have hr14 := Kd.C_take (m := ((l1.length : Int) : Int).toNat) hC14 (by omega)
                  have hy14 : y249.length = ((l1.length : Int) : Int).toNat := (by rw [Ny249.out, List.length_take]; omega)
                  rw [← Ny249.out] at hr14
                  rw [← hy14] at hcut14
                  have HR252 := Aside0.mk hr14
                  have HC252 := Aside0.mk (show y249.length ≤ c0 from by omega)
                  clear hr14 hC14 hroom14 hi014 hsz14
                  have KY14 := Aside0.mk hy14
                  clear hy14
                  replace q14 := eq_true q14
                  go_enter Try.func18, Try.ntmps18
                  go_wp2_with (first | ((with_reducible refine gate_callee (f := 21) rfl ?_); refine goesL_ (some 35) rfl rfl Try.func21 (by kernel_rfl) rfl #[.slice (some ad247) y249.length c0, .slice A1 l1.length c1] rfl (by (try simp only [List.map_toArray, List.map_cons, List.map_nil]); first | done | rfl | (simp only [List.length_drop, List.length_take]; rfl)) ?_; (with_reducible refine (cofferlaw05_same.calls k _ _ y249 _ _ l1 t253 _ ?side1 ?side2 ?side3 ?side4 A13.out).mono ?_); (case side1 => repeat (first | exact HR252.out | (with_reducible refine Kd.C_alloc ?_ _) | (with_reducible refine Kd.C_drewN ?_ _) | (with_reducible refine Kd.C_drew ?_))); (case side2 => exact HC252.out); (case side3 => repeat (first | exact HR1.out | (with_reducible refine Kd.C_alloc ?_ _) | (with_reducible refine Kd.C_drewN ?_ _) | (with_reducible refine Kd.C_drew ?_))); (case side4 => exact HC1.out); rintro e w' ⟨rfl, ⟨nd, rfl⟩⟩; refine ⟨_, rfl, ?_⟩))
                  go_ret
                  exact ⟨by first | rfl | (simp; done) | (simp only [← hji7] <;> (first | rfl | simp)) | (simp [*]; done), by repeat (first | exact Drawn0.refl _ | apply Drawn0.step)⟩
                · rw [if_neg c12] at H
                  exact absurd H (by simp)
            · rw [if_neg c9] at H
              exact absurd H (by simp)
          · rw [if_neg c8] at H
            exact absurd H (by simp)
      · rw [if_neg c5] at H
        exact absurd H (by simp)
    · rw [if_neg c4] at H
      exact absurd H (by simp)
  · rw [if_neg c3] at H
    have c3b0 : ((l0.length : Int) == (wrap64 ((l1.length : Int) + 2))) = false := beq_eq_false_iff_ne.mpr c3
    have c3b1 : ((l0.length : Int) != (wrap64 ((l1.length : Int) + 2))) = true := bne_iff_ne.mpr c3
    obtain rfl := Option.some.inj H
    go_enter Try.func18, Try.ntmps18
    go_wp2
    go_ret
    exact ⟨by first | rfl | (simp; done) | (simp [*]; done), by repeat (first | exact Drawn0.refl _ | apply Drawn0.step)⟩

end Go.Proofs.Ytbohpjbcjnapfaa.X
