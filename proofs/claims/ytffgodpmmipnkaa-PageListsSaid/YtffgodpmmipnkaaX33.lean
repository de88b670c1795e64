-- By a program of this session (wip/xprint.py over the kit's print).
import Derived.Test.YtffgodpmmipnkaaX0
import Derived.Test.YtffgodpmmipnkaaXA
import Derived.Test.YtffgodpmmipnkaaX32
namespace Go.Proofs.Ytffgodpmmipnkaa.X
open Go.RowKit Go.Proofs.YtffgodpmmipnkaaW.PrintWords Go.Proofs.YtffgodpmmipnkaaW.PrintLast Go.Proofs.YtffgodpmmipnkaaW.PrintMore
attribute [local go_sem] max2_int min2_int max_two min_two max_three min_three max_four min_four Go.Proofs.Ytffgodpmmipnkaa.Z.leq_string Go.Proofs.Ytffgodpmmipnkaa.Z.gtr_string Go.Proofs.Ytffgodpmmipnkaa.Z.geq_string   -- for this text's walks alone
set_option linter.unusedVariables false
set_option linter.unusedSimpArgs false

attribute [local go_sem high] eqA37
/-! ### cofferlaw10_kept: function 14 -/
def cofferlaw10_kept.f (k : Nat) (l0 : List (S37)) (l1 : List (S37)) : Option (Bool) := (cofferlaw10_same.f k l0 l1).bind fun t202 => (if t202 = true then (if 0 ≤ (wrap64 ((l1.length : Int) + 1)) then (if (wrap64 ((l1.length : Int) + 1)) ≤ (l0.length : Int) then ((some (l0.take ((wrap64 ((l1.length : Int) + 1)) : Int).toNat : List (S37))).bind fun y203 => (if 0 ≤ (l1.length : Int) then (if (l1.length : Int) < (y203.length : Int) then (some ((((rd_T37 y203 (l1.length : Int)).f0).toList) == ([109, 97, 114, 107] : List UInt8) && ((((rd_T37 y203 (l1.length : Int)).f1).toList) == ([] : List UInt8)))) else (none)) else (none))) else (none)) else (none)) else (some false))
theorem cofferlaw10_kept.mono : ∀ a0 a1 k, LeO (cofferlaw10_kept.f k a0 a1) (cofferlaw10_kept.f (k + 1) a0 a1) := by
  intro a0 a1 k
  unfold cofferlaw10_kept.f
  repeat' first
      | (with_reducible exact cofferlaw10_same.mono _ _ _)
      | (with_reducible exact LeO.refl _)
      | (with_reducible exact LeO.none _)
      | (with_reducible refine LeO.ite ?_ ?_)
      | (with_reducible refine LeO.bind ?_ (fun _ => ?_))
      | exact cofferlaw10_same.mono _ _ _
      | exact LeO.none _
      | refine LeO.ite ?_ ?_
      | refine LeO.bind ?_ (fun _ => ?_)
set_option maxHeartbeats 8000000 in
set_option maxRecDepth 100000 in
theorem cofferlaw10_kept.calls (k : Nat) (A0 : Option Addr) (c0 : Nat) (l0 : List (S37)) (A1 : Option Addr) (c1 : Nat) (l1 : List (S37)) (r : Bool) (w : World) (hr0 : Kd.C k37 w A0 l0.length l0) (hc0 : l0.length ≤ c0) (hr1 : Kd.C k37 w A1 l1.length l1) (hc1 : l1.length ≤ c1) (h : cofferlaw10_kept.f k l0 l1 = some r) :
    Calls Try.prog 14 #[.slice A0 l0.length c0, .slice A1 l1.length c1] w fun e w' => e = .returned (.bool r) ∧ Drawn0 w w' := by
  have hu37 := Try.underlying37
  have HR0 := Aside0.mk hr0
  have HC0 := Aside0.mk hc0
  clear hr0 hc0
  have HR1 := Aside0.mk hr1
  have HC1 := Aside0.mk hc1
  clear hr1 hc1
  have H : ((cofferlaw10_same.f k l0 l1).bind fun t202 => (if t202 = true then (if 0 ≤ (wrap64 ((l1.length : Int) + 1)) then (if (wrap64 ((l1.length : Int) + 1)) ≤ (l0.length : Int) then ((some (l0.take ((wrap64 ((l1.length : Int) + 1)) : Int).toNat : List (S37))).bind fun y203 => (if 0 ≤ (l1.length : Int) then (if (l1.length : Int) < (y203.length : Int) then (some ((((rd_T37 y203 (l1.length : Int)).f0).toList) == ([109, 97, 114, 107] : List UInt8) && ((((rd_T37 y203 (l1.length : Int)).f1).toList) == ([] : List UInt8)))) else (none)) else (none))) else (none)) else (none)) else (some false))) = some r := h
  clear h
  replace H := Option.bind_eq_some_iff.mp H
  obtain ⟨t202, A30, H⟩ := H
  replace H : (if t202 = true then (if 0 ≤ (wrap64 ((l1.length : Int) + 1)) then (if (wrap64 ((l1.length : Int) + 1)) ≤ (l0.length : Int) then ((some (l0.take ((wrap64 ((l1.length : Int) + 1)) : Int).toNat : List (S37))).bind fun y203 => (if 0 ≤ (l1.length : Int) then (if (l1.length : Int) < (y203.length : Int) then (some ((((rd_T37 y203 (l1.length : Int)).f0).toList) == ([109, 97, 114, 107] : List UInt8) && ((((rd_T37 y203 (l1.length : Int)).f1).toList) == ([] : List UInt8)))) else (none)) else (none))) else (none)) else (none)) else (some false)) = some r := H
  have A3 := Aside0.mk A30
  clear A30
  by_cases c4 : t202 = true
  · subst c4
    have H1 : (if 0 ≤ (wrap64 ((l1.length : Int) + 1)) then (if (wrap64 ((l1.length : Int) + 1)) ≤ (l0.length : Int) then ((some (l0.take ((wrap64 ((l1.length : Int) + 1)) : Int).toNat : List (S37))).bind fun y203 => (if 0 ≤ (l1.length : Int) then (if (l1.length : Int) < (y203.length : Int) then (some ((((rd_T37 y203 (l1.length : Int)).f0).toList) == ([109, 97, 114, 107] : List UInt8) && ((((rd_T37 y203 (l1.length : Int)).f1).toList) == ([] : List UInt8)))) else (none)) else (none))) else (none)) else (none)) = some r := by rw [if_pos rfl] at H; exact H
    clear H
    have H := H1
    clear H1
    obtain ⟨ji5, hji5⟩ : ∃ j_ : Int, (wrap64 ((l1.length : Int) + 1)) = j_ := ⟨_, rfl⟩
    replace H : (if 0 ≤ (ji5) then (if (ji5) ≤ (l0.length : Int) then ((some (l0.take ((ji5) : Int).toNat : List (S37))).bind fun y203 => (if 0 ≤ (l1.length : Int) then (if (l1.length : Int) < (y203.length : Int) then (some ((((rd_T37 y203 (l1.length : Int)).f0).toList) == ([109, 97, 114, 107] : List UInt8) && ((((rd_T37 y203 (l1.length : Int)).f1).toList) == ([] : List UInt8)))) else (none)) else (none))) else (none)) else (none)) = some r := by first | (rw [hji5] at H; exact H) | (simp only [hji5] at H ⊢; exact H)
    (try rw [hji5] at A3)
    have hji5w : (IntKind.i64.wrap ((l1.length : Int) + 1)) = ji5 := (i64_w _).trans hji5
    by_cases c6 : 0 ≤ (ji5)
    · rw [if_pos c6] at H
      have c6b0 := eq_true c6
      have c6b1 : decide (0 ≤ (ji5)) = true := decide_eq_true c6
      clear c6
      by_cases c7 : (ji5) ≤ (l0.length : Int)
      · rw [if_pos c7] at H
        have c7b0 := eq_true c7
        have c7b1 : decide ((ji5) ≤ (l0.length : Int)) = true := decide_eq_true c7
        clear c7
        obtain ⟨y203, hy203⟩ : ∃ y_ : List (S37), y_ = (l0.take ((ji5) : Int).toNat) := ⟨_, rfl⟩
        replace H : (if 0 ≤ (l1.length : Int) then (if (l1.length : Int) < (y203.length : Int) then (some ((((rd_T37 y203 (l1.length : Int)).f0).toList) == ([109, 97, 114, 107] : List UInt8) && ((((rd_T37 y203 (l1.length : Int)).f1).toList) == ([] : List UInt8)))) else (none)) else (none)) = some r := by first | (rw [hy203]; with_reducible exact H) | (have H2_ := (Option.bind_some _ _).symm.trans H; rw [hy203]; with_reducible exact H2_) | (have H2_ := (Option.bind_some _ _).symm.trans H; with_reducible exact H2_) | with_reducible exact H | (rw [hy203]; exact H) | exact H
        have Ny203 := Aside0.mk hy203
        clear hy203
        by_cases c8 : 0 ≤ (l1.length : Int)
        · rw [if_pos c8] at H
          have c8b0 : decide (0 ≤ (l1.length : Int)) = true := decide_eq_true c8
          have c8b1 : decide (0 ≤ l1.length) = true := decide_eq_true (by omega)
          clear c8
          by_cases c9 : (l1.length : Int) < (y203.length : Int)
          · rw [if_pos c9] at H
            have c9b0 : decide ((l1.length : Int) < (y203.length : Int)) = true := decide_eq_true c9
            have c9b1 : decide (l1.length < y203.length) = true := decide_eq_true (Int.ofNat_lt.mp c9)
            clear c9
            obtain rfl := Option.some.inj H
            go_enter Try.func14, Try.ntmps14
            go_wp2_with (first | ((with_reducible refine gate_callee (f := 15) rfl ?_); refine goesL_ (some 7) rfl rfl Try.func15 (by kernel_rfl) rfl #[.slice A0 l0.length c0, .slice A1 l1.length c1] rfl (by (try simp only [List.map_toArray, List.map_cons, List.map_nil]); first | done | rfl | (simp only [List.length_drop, List.length_take]; rfl)) ?_; (with_reducible refine (cofferlaw10_same.calls k _ _ l0 _ _ l1 true _ ?side1 ?side2 ?side3 ?side4 A3.out).mono ?_); (case side1 => repeat (first | exact HR0.out | (with_reducible refine Kd.C_alloc ?_ _) | (with_reducible refine Kd.C_drewN ?_ _) | (with_reducible refine Kd.C_drew ?_))); (case side2 => exact HC0.out); (case side3 => repeat (first | exact HR1.out | (with_reducible refine Kd.C_alloc ?_ _) | (with_reducible refine Kd.C_drewN ?_ _) | (with_reducible refine Kd.C_drew ?_))); (case side4 => exact HC1.out); rintro e w' ⟨rfl, ⟨nd, rfl⟩⟩; refine ⟨_, rfl, ?_⟩; have q10 : ((ji5) : Int) ≤ ((l0.length : Int) : Int) := of_decide_eq_true (by first | (with_reducible assumption) | assumption); obtain ⟨i010, hi010, _, hsz10, _⟩ := info_parts info37; have hroom10 : l0.length ≤ c0 := HC0.out; have hC10 : Kd.C k37 _ A0 l0.length l0 := HR0.out; have hcut10 := cut_to (P := Try.prog) 22 37 .i64 Try.underlying22 hi010 A0 l0.length c0 (ji5) (of_decide_eq_true (by first | (with_reducible assumption) | assumption)) q10 hroom10; have hr10 := Kd.C_take (m := ((ji5) : Int).toNat) hC10 (by omega); have hy10 : y203.length = ((ji5) : Int).toNat := (by rw [Ny203.out, List.length_take]; omega); rw [← Ny203.out] at hr10; rw [← hy10] at hcut10; have HR206 := Aside0.mk hr10; have HC206 := Aside0.mk (show y203.length ≤ c0 from by omega); clear hr10 hC10 hroom10 hi010 hsz10; have KY10 := Aside0.mk hy10; clear hy10; replace q10 := eq_true q10; have p207 : 0 ≤ ((l1.length : Int) : Int) := of_decide_eq_true (by first | (with_reducible assumption) | assumption); have q207 : (l1.length : Int) < (y203.length : Int) := of_decide_eq_true (by first | (with_reducible assumption) | assumption); obtain ⟨ad207, e207, hx207_0, hx207_1⟩ := at_T37 HR206.out (l1.length : Int) p207 q207; cases e207; (try simp only [Go.IntWalk.toNatUp] at hx207_0); (try simp only [Go.IntWalk.toNatUp] at hx207_1); replace p207 := eq_true p207; replace q207 := eq_true q207))
            go_ret
            exact ⟨by first | rfl | (simp; done) | (simp only [← hji5] <;> (first | rfl | simp)) | (simp [*]; done), by repeat (first | exact Drawn0.refl _ | apply Drawn0.step)⟩
          · rw [if_neg c9] at H
            exact absurd H (by simp)
        · rw [if_neg c8] at H
          exact absurd H (by simp)
      · rw [if_neg c7] at H
        exact absurd H (by simp)
    · rw [if_neg c6] at H
      exact absurd H (by simp)
  · replace c4 := Bool.eq_false_iff.mpr c4
    subst c4
    have H1 : (some false) = some r := by rw [if_neg (show ¬ (false = true) by decide)] at H; exact H
    clear H
    have H := H1
    clear H1
    obtain rfl := Option.some.inj H
    go_enter Try.func14, Try.ntmps14
    go_wp2_with (first | ((with_reducible refine gate_callee (f := 15) rfl ?_); refine goesL_ (some 7) rfl rfl Try.func15 (by kernel_rfl) rfl #[.slice A0 l0.length c0, .slice A1 l1.length c1] rfl (by (try simp only [List.map_toArray, List.map_cons, List.map_nil]); first | done | rfl | (simp only [List.length_drop, List.length_take]; rfl)) ?_; (with_reducible refine (cofferlaw10_same.calls k _ _ l0 _ _ l1 false _ ?side1 ?side2 ?side3 ?side4 A3.out).mono ?_); (case side1 => repeat (first | exact HR0.out | (with_reducible refine Kd.C_alloc ?_ _) | (with_reducible refine Kd.C_drewN ?_ _) | (with_reducible refine Kd.C_drew ?_))); (case side2 => exact HC0.out); (case side3 => repeat (first | exact HR1.out | (with_reducible refine Kd.C_alloc ?_ _) | (with_reducible refine Kd.C_drewN ?_ _) | (with_reducible refine Kd.C_drew ?_))); (case side4 => exact HC1.out); rintro e w' ⟨rfl, ⟨nd, rfl⟩⟩; refine ⟨_, rfl, ?_⟩))
    go_ret
    exact ⟨by first | rfl | (simp; done) | (simp [*]; done), by repeat (first | exact Drawn0.refl _ | apply Drawn0.step)⟩

end Go.Proofs.Ytffgodpmmipnkaa.X
