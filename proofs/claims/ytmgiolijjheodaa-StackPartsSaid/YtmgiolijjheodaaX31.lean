-- By a program of this session (wip/xprint.py over the kit's print).
import Derived.Test.YtmgiolijjheodaaX0
namespace Go.Proofs.Ytmgiolijjheodaa.X
open Go.RowKit Go.Proofs.YtmgiolijjheodaaW.PrintWords Go.Proofs.YtmgiolijjheodaaW.PrintLast Go.Proofs.YtmgiolijjheodaaW.PrintMore
attribute [local go_sem] Go.Proofs.Ytmgiolijjheodaa.Z.leq_string Go.Proofs.Ytmgiolijjheodaa.Z.gtr_string Go.Proofs.Ytmgiolijjheodaa.Z.geq_string   -- for this text's walks alone
set_option linter.unusedVariables false
set_option linter.unusedSimpArgs false

/-! ### cofferlaw14_right: function 20 -/
def cofferlaw14_right.l0 : Nat → List (S25) → Int → Option (Bool)
 | 0,_,_ => none
 | k + 1,x0,x3 => if x3 < (x0.length : Int) then (if 0 ≤ x3 then (if ((rd_T25 x0 x3).f1) < 1 then (some false) else (if 0 < (x0.length : Int) then (if ((rd_T25 x0 x3).f0).toList = ((rd_T25 x0 0).f0).toList then (if x3 > 0 then (if 0 ≤ (wrap64 (x3 - 1)) then (if (wrap64 (x3 - 1)) < (x0.length : Int) then (if ((rd_T25 x0 x3).f1) ≤ ((rd_T25 x0 (wrap64 (x3 - 1))).f1) then (some false) else (cofferlaw14_right.l0 k x0 (wrap64 (x3 + 1)))) else (none)) else (none)) else (cofferlaw14_right.l0 k x0 (wrap64 (x3 + 1)))) else (some false)) else (none))) else (none)) else (some true)
def cofferlaw14_right.f (k : Nat) (l0 : List (S25)) : Option (Bool):=cofferlaw14_right.l0 k l0 0
theorem cofferlaw14_right.mono_l : ∀ k,(∀ y0 y1,LeO (cofferlaw14_right.l0 k y0 y1) (cofferlaw14_right.l0 (k + 1) y0 y1))
 | 0 => fun _ _ r h => by simp [cofferlaw14_right.l0] at h
 | k + 1 => by
  have ih0:=cofferlaw14_right.mono_l k
  ·intro y0 y1
   unfold cofferlaw14_right.l0
   repeat' first
   | (with_reducible exact ih0 _ _)
   | (with_reducible exact LeO.refl _)
   | (with_reducible exact LeO.none _)
   | (with_reducible refine LeO.ite ?_ ?_)
   | (with_reducible refine LeO.bind ?_ (fun _ => ?_))
   | exact ih0 _ _
   | exact LeO.none _
   | refine LeO.ite ?_ ?_
   | refine LeO.bind ?_ (fun _ => ?_)
theorem cofferlaw14_right.mono : ∀ a0 k,LeO (cofferlaw14_right.f k a0) (cofferlaw14_right.f (k + 1) a0):=by
 intro a0 k
 have ih0:=cofferlaw14_right.mono_l k
 unfold cofferlaw14_right.f
 repeat' first
  | (with_reducible exact ih0 _ _)
  | (with_reducible exact LeO.refl _)
  | (with_reducible exact LeO.none _)
  | (with_reducible refine LeO.ite ?_ ?_)
  | (with_reducible refine LeO.bind ?_ (fun _ => ?_))
  | exact ih0 _ _
  | exact LeO.none _
  | refine LeO.ite ?_ ?_
  | refine LeO.bind ?_ (fun _ => ?_)
set_option maxHeartbeats 8000000 in
set_option maxRecDepth 100000 in
theorem cofferlaw14_right.calls (k : Nat) (A0 : Option Addr) (c0 : Nat) (l0 : List (S25)) (r : Bool) (w : World) (hr0 : Kd.C k25 w A0 l0.length l0) (hc0 : l0.length ≤ c0) (h : cofferlaw14_right.f k l0 = some r) :
 Calls Try.prog 20 #[.slice A0 l0.length c0] w fun e w' => e = .returned (.bool r) ∧ Drawn0 w w':=by
 have HR0:=Aside0.mk hr0
 have HC0:=Aside0.mk hc0
 clear hr0 hc0
 have H : (cofferlaw14_right.l0 k l0 0) = some r:=h
 clear h
 have H':=Aside0.mk H
 clear H
 go_enter Try.func20,Try.ntmps20
 go_wp2
 repeat (go_quiet (fail);try go_wp2)
 go_loopg [3] k (fun kq v3 w' => ∃ (x3_1 : Int),v3 = .int .i64 x3_1 ∧ Aside0 (cofferlaw14_right.l0 kq l0 x3_1 = some r) ∧ Aside0 (kq ≤ k) ∧ Drawn0 w w')
 case atStart => exact ⟨(0),(by first|rfl|(simp;done)|(simp [Go.Proofs.Ytmgiolijjheodaa.Z.bne_nil,Go.Proofs.Ytmgiolijjheodaa.Z.beq_nil];done)|(simp [*];done)),H',⟨Nat.le_refl _⟩,by repeat (first|exact Drawn0.refl _|apply Drawn0.step)⟩
 case round =>
  clear H'
  obtain ⟨x3_1,rfl,HA,HK1,⟨m1,rfl⟩⟩:=hrel
  cases gk with
  | zero => exact absurd HA.out (by simp [cofferlaw14_right.l0])
  | succ k1 =>
   have H:=HA.out
   clear HA
   simp only [cofferlaw14_right.l0] at H
   by_cases c2 : x3_1 < (l0.length : Int)
   ·rw [if_pos c2] at H
    have c2b0 : decide (x3_1 < (l0.length : Int)) = true:=decide_eq_true c2
    clear c2
    by_cases c3 : 0 ≤ x3_1
    ·rw [if_pos c3] at H
     have c3b0 : decide (0 ≤ x3_1) = true:=decide_eq_true c3
     clear c3
     by_cases c4 : ((rd_T25 l0 x3_1).f1) < 1
     ·rw [if_pos c4] at H
      have c4b0 : decide (((rd_T25 l0 x3_1).f1) < 1) = true:=decide_eq_true c4
      clear c4
      obtain rfl:=Option.some.inj H
      have p350 : 0 ≤ (x3_1 : Int):=of_decide_eq_true (by first|(with_reducible assumption)|assumption)
      have q350 : x3_1 < (l0.length : Int):=of_decide_eq_true (by first|(with_reducible assumption)|assumption)
      obtain ⟨ad350,A350_4,c350_4,e350,hx350_0,hx350_1,hx350_2,hx350_3,hx350_4,hl350_4,hi350_4⟩:=at_T25 HR0.out x3_1 p350 q350
      cases e350
      have HR350_4:=Aside0.mk hi350_4
      have HC350_4:=Aside0.mk hl350_4
      clear hi350_4 hl350_4
      replace p350:=eq_true p350
      replace q350:=eq_true q350
      go_wp2
      repeat (go_quiet (fail);try go_wp2)
      go_ret
      exact ⟨by first|rfl|(simp;done)|(simp [*];done),by repeat (first|exact Drawn0.refl _|apply Drawn0.step)⟩
     ·rw [if_neg c4] at H
      have c4b0 : decide (((rd_T25 l0 x3_1).f1) < 1) = false:=decide_eq_false c4
      clear c4
      by_cases c5 : 0 < (l0.length : Int)
      ·rw [if_pos c5] at H
       have c5b0 : decide (0 < (l0.length : Int)) = true:=decide_eq_true c5
       have c5b1 : decide (0 < l0.length) = true:=decide_eq_true (by omega)
       clear c5
       by_cases c6 : ((rd_T25 l0 x3_1).f0).toList = ((rd_T25 l0 0).f0).toList
       ·rw [if_pos c6] at H
        have c6b0 : (((rd_T25 l0 x3_1).f0).toList == ((rd_T25 l0 0).f0).toList) = true:=beq_iff_eq.mpr c6
        have c6b1 : (((rd_T25 l0 x3_1).f0).toList != ((rd_T25 l0 0).f0).toList) = false:=bne_eq_false_iff_eq.mpr c6
        clear c6
        by_cases c7 : x3_1 > 0
        ·rw [if_pos c7] at H
         have c7b0 : decide (0 < x3_1) = true:=decide_eq_true c7
         clear c7
         obtain ⟨ji8,hji8⟩ : ∃ j_ : Int,(wrap64 (x3_1 - 1)) = j_:=⟨_,rfl⟩
         replace H : (if 0 ≤ (ji8) then (if (ji8) < (l0.length : Int) then (if ((rd_T25 l0 x3_1).f1) ≤ ((rd_T25 l0 (ji8)).f1) then (some false) else (cofferlaw14_right.l0 k1 l0 (wrap64 (x3_1 + 1)))) else (none)) else (none)) = some r:=by first|(rw [hji8] at H;exact H)|(simp only [hji8] at H ⊢;exact H)
         have hji8w : (IntKind.i64.wrap (x3_1 - 1)) = ji8:=(i64_w _).trans hji8
         by_cases c9 : 0 ≤ (ji8)
         ·rw [if_pos c9] at H
          have c9b0 : decide (0 ≤ (ji8)) = true:=decide_eq_true c9
          clear c9
          by_cases c10 : (ji8) < (l0.length : Int)
          ·rw [if_pos c10] at H
           have c10b0 : decide ((ji8) < (l0.length : Int)) = true:=decide_eq_true c10
           clear c10
           by_cases c11 : ((rd_T25 l0 x3_1).f1) ≤ ((rd_T25 l0 (ji8)).f1)
           ·rw [if_pos c11] at H
            have c11b0 : decide (((rd_T25 l0 x3_1).f1) ≤ ((rd_T25 l0 (ji8)).f1)) = true:=decide_eq_true c11
            clear c11
            obtain rfl:=Option.some.inj H
            have p350 : 0 ≤ (x3_1 : Int):=of_decide_eq_true (by first|(with_reducible assumption)|assumption)
            have q350 : x3_1 < (l0.length : Int):=of_decide_eq_true (by first|(with_reducible assumption)|assumption)
            obtain ⟨ad350,A350_4,c350_4,e350,hx350_0,hx350_1,hx350_2,hx350_3,hx350_4,hl350_4,hi350_4⟩:=at_T25 HR0.out x3_1 p350 q350
            cases e350
            have HR350_4:=Aside0.mk hi350_4
            have HC350_4:=Aside0.mk hl350_4
            clear hi350_4 hl350_4
            replace p350:=eq_true p350
            replace q350:=eq_true q350
            have p351 : 0 ≤ (x3_1 : Int):=of_decide_eq_true (by first|(with_reducible assumption)|assumption)
            have q351 : x3_1 < (l0.length : Int):=of_decide_eq_true (by first|(with_reducible assumption)|assumption)
            obtain ⟨ad351,A351_4,c351_4,e351,hx351_0,hx351_1,hx351_2,hx351_3,hx351_4,hl351_4,hi351_4⟩:=at_T25 HR0.out x3_1 p351 q351
            obtain rfl : ad350 = ad351:=(by injection e351)
            have HR351_4:=Aside0.mk hi351_4
            have HC351_4:=Aside0.mk hl351_4
            clear hi351_4 hl351_4
            replace p351:=eq_true p351
            replace q351:=eq_true q351
            have ea_:=Option.some.inj (hx350_4.symm.trans hx351_4)
            injection ea_ with ea_ en_ ec_
            subst ea_
            subst ec_
            clear en_
            have p352 : 0 ≤ (0 : Int):=(by omega)
            have q352 : 0 < (l0.length : Int):=of_decide_eq_true (by first|(with_reducible assumption)|assumption)
            obtain ⟨ad352,A352_4,c352_4,e352,hx352_0,hx352_1,hx352_2,hx352_3,hx352_4,hl352_4,hi352_4⟩:=at_T25 HR0.out 0 p352 q352
            obtain rfl : ad350 = ad352:=(by injection e352)
            have qi352 : (0 < l0.length) = True:=eq_true (by omega)
            (try rw [show ((0 : Int)).toNat = 0 from rfl] at hx352_0)
            (try rw [show 0 * 5 = 0 from rfl] at hx352_0)
            (try rw [Addr.add_zero'] at hx352_0)
            (try rw [show ((0 : Int)).toNat = 0 from rfl] at hx352_1)
            (try rw [show 0 * 5 = 0 from rfl] at hx352_1)
            (try rw [Addr.add_zero'] at hx352_1)
            (try rw [show ((0 : Int)).toNat = 0 from rfl] at hx352_2)
            (try rw [show 0 * 5 = 0 from rfl] at hx352_2)
            (try rw [Addr.add_zero'] at hx352_2)
            (try rw [show ((0 : Int)).toNat = 0 from rfl] at hx352_3)
            (try rw [show 0 * 5 = 0 from rfl] at hx352_3)
            (try rw [Addr.add_zero'] at hx352_3)
            (try rw [show ((0 : Int)).toNat = 0 from rfl] at hx352_4)
            (try rw [show 0 * 5 = 0 from rfl] at hx352_4)
            (try rw [Addr.add_zero'] at hx352_4)
            have HR352_4:=Aside0.mk hi352_4
            have HC352_4:=Aside0.mk hl352_4
            clear hi352_4 hl352_4
            replace p352:=eq_true p352
            replace q352:=eq_true q352
            have p353 : 0 ≤ (x3_1 : Int):=of_decide_eq_true (by first|(with_reducible assumption)|assumption)
            have q353 : x3_1 < (l0.length : Int):=of_decide_eq_true (by first|(with_reducible assumption)|assumption)
            obtain ⟨ad353,A353_4,c353_4,e353,hx353_0,hx353_1,hx353_2,hx353_3,hx353_4,hl353_4,hi353_4⟩:=at_T25 HR0.out x3_1 p353 q353
            obtain rfl : ad350 = ad353:=(by injection e353)
            have HR353_4:=Aside0.mk hi353_4
            have HC353_4:=Aside0.mk hl353_4
            clear hi353_4 hl353_4
            replace p353:=eq_true p353
            replace q353:=eq_true q353
            have ea_:=Option.some.inj (hx350_4.symm.trans hx353_4)
            injection ea_ with ea_ en_ ec_
            subst ea_
            subst ec_
            clear en_
            have p354 : 0 ≤ ((ji8) : Int):=of_decide_eq_true (by first|(with_reducible assumption)|assumption)
            have q354 : (ji8) < (l0.length : Int):=of_decide_eq_true (by first|(with_reducible assumption)|assumption)
            obtain ⟨ad354,A354_4,c354_4,e354,hx354_0,hx354_1,hx354_2,hx354_3,hx354_4,hl354_4,hi354_4⟩:=at_T25 HR0.out (ji8) p354 q354
            obtain rfl : ad350 = ad354:=(by injection e354)
            have HR354_4:=Aside0.mk hi354_4
            have HC354_4:=Aside0.mk hl354_4
            clear hi354_4 hl354_4
            replace p354:=eq_true p354
            replace q354:=eq_true q354
            go_wp2
            repeat (go_quiet (fail);try go_wp2)
            go_ret
            exact ⟨by first|rfl|(simp;done)|(simp only [← hji8] <;> (first|rfl|simp))|(simp [*];done),by repeat (first|exact Drawn0.refl _|apply Drawn0.step)⟩
           ·rw [if_neg c11] at H
            have c11b0 : decide (((rd_T25 l0 x3_1).f1) ≤ ((rd_T25 l0 (ji8)).f1)) = false:=decide_eq_false c11
            clear c11
            have H':=Aside0.mk H
            clear H
            have p350 : 0 ≤ (x3_1 : Int):=of_decide_eq_true (by first|(with_reducible assumption)|assumption)
            have q350 : x3_1 < (l0.length : Int):=of_decide_eq_true (by first|(with_reducible assumption)|assumption)
            obtain ⟨ad350,A350_4,c350_4,e350,hx350_0,hx350_1,hx350_2,hx350_3,hx350_4,hl350_4,hi350_4⟩:=at_T25 HR0.out x3_1 p350 q350
            cases e350
            have HR350_4:=Aside0.mk hi350_4
            have HC350_4:=Aside0.mk hl350_4
            clear hi350_4 hl350_4
            replace p350:=eq_true p350
            replace q350:=eq_true q350
            have p351 : 0 ≤ (x3_1 : Int):=of_decide_eq_true (by first|(with_reducible assumption)|assumption)
            have q351 : x3_1 < (l0.length : Int):=of_decide_eq_true (by first|(with_reducible assumption)|assumption)
            obtain ⟨ad351,A351_4,c351_4,e351,hx351_0,hx351_1,hx351_2,hx351_3,hx351_4,hl351_4,hi351_4⟩:=at_T25 HR0.out x3_1 p351 q351
            obtain rfl : ad350 = ad351:=(by injection e351)
            have HR351_4:=Aside0.mk hi351_4
            have HC351_4:=Aside0.mk hl351_4
            clear hi351_4 hl351_4
            replace p351:=eq_true p351
            replace q351:=eq_true q351
            have ea_:=Option.some.inj (hx350_4.symm.trans hx351_4)
            injection ea_ with ea_ en_ ec_
            subst ea_
            subst ec_
            clear en_
            have p352 : 0 ≤ (0 : Int):=(by omega)
            have q352 : 0 < (l0.length : Int):=of_decide_eq_true (by first|(with_reducible assumption)|assumption)
            obtain ⟨ad352,A352_4,c352_4,e352,hx352_0,hx352_1,hx352_2,hx352_3,hx352_4,hl352_4,hi352_4⟩:=at_T25 HR0.out 0 p352 q352
            obtain rfl : ad350 = ad352:=(by injection e352)
            have qi352 : (0 < l0.length) = True:=eq_true (by omega)
            (try rw [show ((0 : Int)).toNat = 0 from rfl] at hx352_0)
            (try rw [show 0 * 5 = 0 from rfl] at hx352_0)
            (try rw [Addr.add_zero'] at hx352_0)
            (try rw [show ((0 : Int)).toNat = 0 from rfl] at hx352_1)
            (try rw [show 0 * 5 = 0 from rfl] at hx352_1)
            (try rw [Addr.add_zero'] at hx352_1)
            (try rw [show ((0 : Int)).toNat = 0 from rfl] at hx352_2)
            (try rw [show 0 * 5 = 0 from rfl] at hx352_2)
            (try rw [Addr.add_zero'] at hx352_2)
            (try rw [show ((0 : Int)).toNat = 0 from rfl] at hx352_3)
            (try rw [show 0 * 5 = 0 from rfl] at hx352_3)
            (try rw [Addr.add_zero'] at hx352_3)
            (try rw [show ((0 : Int)).toNat = 0 from rfl] at hx352_4)
            (try rw [show 0 * 5 = 0 from rfl] at hx352_4)
            (try rw [Addr.add_zero'] at hx352_4)
            have HR352_4:=Aside0.mk hi352_4
            have HC352_4:=Aside0.mk hl352_4
            clear hi352_4 hl352_4
            replace p352:=eq_true p352
            replace q352:=eq_true q352
            have p353 : 0 ≤ (x3_1 : Int):=of_decide_eq_true (by first|(with_reducible assumption)|assumption)
            have q353 : x3_1 < (l0.length : Int):=of_decide_eq_true (by first|(with_reducible assumption)|assumption)
            obtain ⟨ad353,A353_4,c353_4,e353,hx353_0,hx353_1,hx353_2,hx353_3,hx353_4,hl353_4,hi353_4⟩:=at_T25 HR0.out x3_1 p353 q353
            obtain rfl : ad350 = ad353:=(by injection e353)
            have HR353_4:=Aside0.mk hi353_4
            have HC353_4:=Aside0.mk hl353_4
            clear hi353_4 hl353_4
            replace p353:=eq_true p353
            replace q353:=eq_true q353
            have ea_:=Option.some.inj (hx350_4.symm.trans hx353_4)
            injection ea_ with ea_ en_ ec_
            subst ea_
            subst ec_
            clear en_
            have p354 : 0 ≤ ((ji8) : Int):=of_decide_eq_true (by first|(with_reducible assumption)|assumption)
            have q354 : (ji8) < (l0.length : Int):=of_decide_eq_true (by first|(with_reducible assumption)|assumption)
            obtain ⟨ad354,A354_4,c354_4,e354,hx354_0,hx354_1,hx354_2,hx354_3,hx354_4,hl354_4,hi354_4⟩:=at_T25 HR0.out (ji8) p354 q354
            obtain rfl : ad350 = ad354:=(by injection e354)
            have HR354_4:=Aside0.mk hi354_4
            have HC354_4:=Aside0.mk hl354_4
            clear hi354_4 hl354_4
            replace p354:=eq_true p354
            replace q354:=eq_true q354
            go_wp2
            repeat (go_quiet (fail);try go_wp2)
            go_roundg k1
            case measure => have:=HK1.out;omega
            case rel => exact ⟨(wrap64 (x3_1 + 1)),(by first|rfl|(simp;done)|(simp [Go.Proofs.Ytmgiolijjheodaa.Z.bne_nil,Go.Proofs.Ytmgiolijjheodaa.Z.beq_nil];done)|(simp [*];done)),H',⟨by have:=HK1.out;omega⟩,by repeat (first|exact Drawn0.refl _|apply Drawn0.step)⟩
          ·rw [if_neg c10] at H
           exact absurd H (by simp)
         ·rw [if_neg c9] at H
          exact absurd H (by simp)
        ·rw [if_neg c7] at H
         have c7b0 : decide (0 < x3_1) = false:=decide_eq_false c7
         clear c7
         have H':=Aside0.mk H
         clear H
         have p350 : 0 ≤ (x3_1 : Int):=of_decide_eq_true (by first|(with_reducible assumption)|assumption)
         have q350 : x3_1 < (l0.length : Int):=of_decide_eq_true (by first|(with_reducible assumption)|assumption)
         obtain ⟨ad350,A350_4,c350_4,e350,hx350_0,hx350_1,hx350_2,hx350_3,hx350_4,hl350_4,hi350_4⟩:=at_T25 HR0.out x3_1 p350 q350
         cases e350
         have HR350_4:=Aside0.mk hi350_4
         have HC350_4:=Aside0.mk hl350_4
         clear hi350_4 hl350_4
         replace p350:=eq_true p350
         replace q350:=eq_true q350
         have p351 : 0 ≤ (x3_1 : Int):=of_decide_eq_true (by first|(with_reducible assumption)|assumption)
         have q351 : x3_1 < (l0.length : Int):=of_decide_eq_true (by first|(with_reducible assumption)|assumption)
         obtain ⟨ad351,A351_4,c351_4,e351,hx351_0,hx351_1,hx351_2,hx351_3,hx351_4,hl351_4,hi351_4⟩:=at_T25 HR0.out x3_1 p351 q351
         obtain rfl : ad350 = ad351:=(by injection e351)
         have HR351_4:=Aside0.mk hi351_4
         have HC351_4:=Aside0.mk hl351_4
         clear hi351_4 hl351_4
         replace p351:=eq_true p351
         replace q351:=eq_true q351
         have ea_:=Option.some.inj (hx350_4.symm.trans hx351_4)
         injection ea_ with ea_ en_ ec_
         subst ea_
         subst ec_
         clear en_
         have p352 : 0 ≤ (0 : Int):=(by omega)
         have q352 : 0 < (l0.length : Int):=of_decide_eq_true (by first|(with_reducible assumption)|assumption)
         obtain ⟨ad352,A352_4,c352_4,e352,hx352_0,hx352_1,hx352_2,hx352_3,hx352_4,hl352_4,hi352_4⟩:=at_T25 HR0.out 0 p352 q352
         obtain rfl : ad350 = ad352:=(by injection e352)
         have qi352 : (0 < l0.length) = True:=eq_true (by omega)
         (try rw [show ((0 : Int)).toNat = 0 from rfl] at hx352_0)
         (try rw [show 0 * 5 = 0 from rfl] at hx352_0)
         (try rw [Addr.add_zero'] at hx352_0)
         (try rw [show ((0 : Int)).toNat = 0 from rfl] at hx352_1)
         (try rw [show 0 * 5 = 0 from rfl] at hx352_1)
         (try rw [Addr.add_zero'] at hx352_1)
         (try rw [show ((0 : Int)).toNat = 0 from rfl] at hx352_2)
         (try rw [show 0 * 5 = 0 from rfl] at hx352_2)
         (try rw [Addr.add_zero'] at hx352_2)
         (try rw [show ((0 : Int)).toNat = 0 from rfl] at hx352_3)
         (try rw [show 0 * 5 = 0 from rfl] at hx352_3)
         (try rw [Addr.add_zero'] at hx352_3)
         (try rw [show ((0 : Int)).toNat = 0 from rfl] at hx352_4)
         (try rw [show 0 * 5 = 0 from rfl] at hx352_4)
         (try rw [Addr.add_zero'] at hx352_4)
         have HR352_4:=Aside0.mk hi352_4
         have HC352_4:=Aside0.mk hl352_4
         clear hi352_4 hl352_4
         replace p352:=eq_true p352
         replace q352:=eq_true q352
         go_wp2
         repeat (go_quiet (fail);try go_wp2)
         go_roundg k1
         case measure => have:=HK1.out;omega
         case rel => exact ⟨(wrap64 (x3_1 + 1)),(by first|rfl|(simp;done)|(simp [Go.Proofs.Ytmgiolijjheodaa.Z.bne_nil,Go.Proofs.Ytmgiolijjheodaa.Z.beq_nil];done)|(simp [*];done)),H',⟨by have:=HK1.out;omega⟩,by repeat (first|exact Drawn0.refl _|apply Drawn0.step)⟩
       ·rw [if_neg c6] at H
        have c6b0 : (((rd_T25 l0 x3_1).f0).toList == ((rd_T25 l0 0).f0).toList) = false:=beq_eq_false_iff_ne.mpr c6
        have c6b1 : (((rd_T25 l0 x3_1).f0).toList != ((rd_T25 l0 0).f0).toList) = true:=bne_iff_ne.mpr c6
        obtain rfl:=Option.some.inj H
        have p350 : 0 ≤ (x3_1 : Int):=of_decide_eq_true (by first|(with_reducible assumption)|assumption)
        have q350 : x3_1 < (l0.length : Int):=of_decide_eq_true (by first|(with_reducible assumption)|assumption)
        obtain ⟨ad350,A350_4,c350_4,e350,hx350_0,hx350_1,hx350_2,hx350_3,hx350_4,hl350_4,hi350_4⟩:=at_T25 HR0.out x3_1 p350 q350
        cases e350
        have HR350_4:=Aside0.mk hi350_4
        have HC350_4:=Aside0.mk hl350_4
        clear hi350_4 hl350_4
        replace p350:=eq_true p350
        replace q350:=eq_true q350
        have p351 : 0 ≤ (x3_1 : Int):=of_decide_eq_true (by first|(with_reducible assumption)|assumption)
        have q351 : x3_1 < (l0.length : Int):=of_decide_eq_true (by first|(with_reducible assumption)|assumption)
        obtain ⟨ad351,A351_4,c351_4,e351,hx351_0,hx351_1,hx351_2,hx351_3,hx351_4,hl351_4,hi351_4⟩:=at_T25 HR0.out x3_1 p351 q351
        obtain rfl : ad350 = ad351:=(by injection e351)
        have HR351_4:=Aside0.mk hi351_4
        have HC351_4:=Aside0.mk hl351_4
        clear hi351_4 hl351_4
        replace p351:=eq_true p351
        replace q351:=eq_true q351
        have ea_:=Option.some.inj (hx350_4.symm.trans hx351_4)
        injection ea_ with ea_ en_ ec_
        subst ea_
        subst ec_
        clear en_
        have p352 : 0 ≤ (0 : Int):=(by omega)
        have q352 : 0 < (l0.length : Int):=of_decide_eq_true (by first|(with_reducible assumption)|assumption)
        obtain ⟨ad352,A352_4,c352_4,e352,hx352_0,hx352_1,hx352_2,hx352_3,hx352_4,hl352_4,hi352_4⟩:=at_T25 HR0.out 0 p352 q352
        obtain rfl : ad350 = ad352:=(by injection e352)
        have qi352 : (0 < l0.length) = True:=eq_true (by omega)
        (try rw [show ((0 : Int)).toNat = 0 from rfl] at hx352_0)
        (try rw [show 0 * 5 = 0 from rfl] at hx352_0)
        (try rw [Addr.add_zero'] at hx352_0)
        (try rw [show ((0 : Int)).toNat = 0 from rfl] at hx352_1)
        (try rw [show 0 * 5 = 0 from rfl] at hx352_1)
        (try rw [Addr.add_zero'] at hx352_1)
        (try rw [show ((0 : Int)).toNat = 0 from rfl] at hx352_2)
        (try rw [show 0 * 5 = 0 from rfl] at hx352_2)
        (try rw [Addr.add_zero'] at hx352_2)
        (try rw [show ((0 : Int)).toNat = 0 from rfl] at hx352_3)
        (try rw [show 0 * 5 = 0 from rfl] at hx352_3)
        (try rw [Addr.add_zero'] at hx352_3)
        (try rw [show ((0 : Int)).toNat = 0 from rfl] at hx352_4)
        (try rw [show 0 * 5 = 0 from rfl] at hx352_4)
        (try rw [Addr.add_zero'] at hx352_4)
        have HR352_4:=Aside0.mk hi352_4
        have HC352_4:=Aside0.mk hl352_4
        clear hi352_4 hl352_4
        replace p352:=eq_true p352
        replace q352:=eq_true q352
        go_wp2
        repeat (go_quiet (fail);try go_wp2)
        go_ret
        exact ⟨by first|rfl|(simp;done)|(simp [*];done),by repeat (first|exact Drawn0.refl _|apply Drawn0.step)⟩
      ·rw [if_neg c5] at H
       exact absurd H (by simp)
    ·rw [if_neg c3] at H
     exact absurd H (by simp)
   ·rw [if_neg c2] at H
    have c2b0 : decide (x3_1 < (l0.length : Int)) = false:=decide_eq_false c2
    clear c2
    obtain rfl:=Option.some.inj H
    go_wp2
    repeat (go_quiet (fail);try go_wp2)
    go_ret
    exact ⟨by first|rfl|(simp;done)|(simp [*];done),by repeat (first|exact Drawn0.refl _|apply Drawn0.step)⟩

end Go.Proofs.Ytmgiolijjheodaa.X
