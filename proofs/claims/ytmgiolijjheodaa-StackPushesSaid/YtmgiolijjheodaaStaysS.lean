-- From the printed walk of cofferlaw14_stays (xprint.py), turned by spare14.py: m is read by kx.
import Derived.Test.YtmgiolijjheodaaX0
import Derived.Test.YtmgiolijjheodaaX2
import Derived.Test.YtmgiolijjheodaaX24
import Derived.Test.YtmgiolijjheodaaSpare
namespace Go.Proofs.Ytmgiolijjheodaa.X
open Go.RowKit Go.Proofs.YtmgiolijjheodaaW.PrintWords Go.Proofs.YtmgiolijjheodaaW.PrintLast Go.Proofs.YtmgiolijjheodaaW.PrintMore
attribute [local go_sem] Go.Proofs.Ytmgiolijjheodaa.Z.leq_string Go.Proofs.Ytmgiolijjheodaa.Z.gtr_string Go.Proofs.Ytmgiolijjheodaa.Z.geq_string
set_option linter.unusedVariables false
set_option linter.unusedSimpArgs false
open Go.Proofs.Ytmgiolijjheodaa
attribute [local go_sem high] eqA49
mutual
def cofferlaw14_staysS.j0 : Nat → List (S25) → List (S25) → Int → Bool → Option (Bool)
  | 0, _, _, _, _ => none
  | k + 1, x0, x1, x5, x47 => if x47 = true then (none) else (cofferlaw14_staysS.l0 k x0 x1 x5 0)
def cofferlaw14_staysS.l0 : Nat → List (S25) → List (S25) → Int → Int → Option (Bool)
  | 0, _, _, _, _ => none
  | k + 1, x0, x1, x5, x6 => if x6 < x5 then (if 0 ≤ x6 then (if x6 < (x1.length : Int) then (if x6 < (x0.length : Int) then (if 0 ≤ (wrap64 ((((rd_T25 x1 x6).f4).length : Int) + 1)) then (if (wrap64 ((((rd_T25 x1 x6).f4).length : Int) + 1)) ≤ (((rd_T25 x0 x6).f4).length : Int) then ((some (((rd_T25 x0 x6).f4).take ((wrap64 ((((rd_T25 x1 x6).f4).length : Int) + 1)) : Int).toNat : List (S49))).bind fun y300 => (if 0 ≤ (((rd_T25 x1 x6).f4).length : Int) then (if (((rd_T25 x1 x6).f4).length : Int) < (y300.length : Int) then (if (rd_T49 y300 (((rd_T25 x1 x6).f4).length : Int)).f0 = (⟨#[109, 97, 114, 107]⟩ : ByteArray) then (if (rd_T49 y300 (((rd_T25 x1 x6).f4).length : Int)).f1 = (⟨#[]⟩ : ByteArray) then (cofferlaw14_staysS.l0 k x0 x1 x5 (wrap64 (x6 + 1))) else (none)) else (none)) else (none)) else (none))) else (none)) else (none)) else (none)) else (none)) else (none)) else (some true)
end
def cofferlaw14_staysS.f (k : Nat) (l0 : List (S25)) (L0 : List (S25)) (l1 : List (S25)) : Option (Bool) := if (l0.length : Int) = (wrap64 ((l1.length : Int) + 2)) then (if 0 ≤ (l1.length : Int) then (if (l1.length : Int) < (l0.length : Int) then (if ((rd_T25 l0 (l1.length : Int)).f1) = (-77) then (if ((rd_T25 l0 (l1.length : Int)).f0).toList = ([109, 97, 114, 107] : List UInt8) then (if 0 ≤ (wrap64 ((l1.length : Int) + 1)) then (if (wrap64 ((l1.length : Int) + 1)) < (l0.length : Int) then (if ((rd_T25 l0 (wrap64 ((l1.length : Int) + 1))).f3).toList = ([109, 97, 114, 107] : List UInt8) then (if (l1.length : Int) ≤ (l0.length : Int) then ((cofferref14_SameList.f k (l0.take ((l1.length : Int) : Int).toNat) l1).bind fun t297 => (cofferlaw14_staysS.j0 k L0 l1 (l1.length : Int) (!t297))) else (none)) else (none)) else (none)) else (none)) else (none)) else (none)) else (none)) else (none)) else (none)
theorem cofferlaw14_staysS.mono_l : ∀ k, (∀ y0 y1 y2 y3, LeO (cofferlaw14_staysS.j0 k y0 y1 y2 y3) (cofferlaw14_staysS.j0 (k + 1) y0 y1 y2 y3)) ∧ (∀ y0 y1 y2 y3, LeO (cofferlaw14_staysS.l0 k y0 y1 y2 y3) (cofferlaw14_staysS.l0 (k + 1) y0 y1 y2 y3))
  | 0 => ⟨fun _ _ _ _ r h => by simp [cofferlaw14_staysS.j0] at h, fun _ _ _ _ r h => by simp [cofferlaw14_staysS.l0] at h⟩
  | k + 1 => by
    obtain ⟨ih0, ih1⟩ := cofferlaw14_staysS.mono_l k
    refine ⟨?_, ?_⟩
    · intro y0 y1 y2 y3
      unfold cofferlaw14_staysS.j0
      repeat' first
      | (with_reducible exact ih0 _ _ _ _)
      | (with_reducible exact ih1 _ _ _ _)
      | (with_reducible exact cofferref14_SameList.mono _ _ _)
      | (with_reducible exact LeO.refl _)
      | (with_reducible exact LeO.none _)
      | (with_reducible refine LeO.ite ?_ ?_)
      | (with_reducible refine LeO.bind ?_ (fun _ => ?_))
      | exact ih0 _ _ _ _
      | exact ih1 _ _ _ _
      | exact cofferref14_SameList.mono _ _ _
      | exact LeO.none _
      | refine LeO.ite ?_ ?_
      | refine LeO.bind ?_ (fun _ => ?_)
    · intro y0 y1 y2 y3
      unfold cofferlaw14_staysS.l0
      repeat' first
      | (with_reducible exact ih0 _ _ _ _)
      | (with_reducible exact ih1 _ _ _ _)
      | (with_reducible exact cofferref14_SameList.mono _ _ _)
      | (with_reducible exact LeO.refl _)
      | (with_reducible exact LeO.none _)
      | (with_reducible refine LeO.ite ?_ ?_)
      | (with_reducible refine LeO.bind ?_ (fun _ => ?_))
      | exact ih0 _ _ _ _
      | exact ih1 _ _ _ _
      | exact cofferref14_SameList.mono _ _ _
      | exact LeO.none _
      | refine LeO.ite ?_ ?_
      | refine LeO.bind ?_ (fun _ => ?_)
theorem cofferlaw14_staysS.mono : ∀ a0 a1 a2 k, LeO (cofferlaw14_staysS.f k a0 a1 a2) (cofferlaw14_staysS.f (k + 1) a0 a1 a2) := by
  intro a0 a1 a2 k
  obtain ⟨ih0, ih1⟩ := cofferlaw14_staysS.mono_l k
  unfold cofferlaw14_staysS.f
  repeat' first
      | (with_reducible exact ih0 _ _ _ _)
      | (with_reducible exact ih1 _ _ _ _)
      | (with_reducible exact cofferref14_SameList.mono _ _ _)
      | (with_reducible exact LeO.refl _)
      | (with_reducible exact LeO.none _)
      | (with_reducible refine LeO.ite ?_ ?_)
      | (with_reducible refine LeO.bind ?_ (fun _ => ?_))
      | exact ih0 _ _ _ _
      | exact ih1 _ _ _ _
      | exact cofferref14_SameList.mono _ _ _
      | exact LeO.none _
      | refine LeO.ite ?_ ?_
      | refine LeO.bind ?_ (fun _ => ?_)
set_option maxHeartbeats 8000000 in
set_option maxRecDepth 100000 in
theorem cofferlaw14_staysS.calls (k : Nat) (A0 : Option Addr) (c0 : Nat) (l0 : List (S25)) (L0 : List (S25)) (A1 : Option Addr) (c1 : Nat) (l1 : List (S25)) (r : Bool) (w : World) (hlen : l0.length = L0.length) (hx : Kd.C kx w A0 L0.length L0) (hr0 : Kd.C k25 w A0 l0.length l0) (hc0 : l0.length ≤ c0) (hr1 : Kd.C k25 w A1 l1.length l1) (hc1 : l1.length ≤ c1) (h : cofferlaw14_staysS.f k l0 L0 l1 = some r) :
    Calls Try.prog 16 #[.slice A0 l0.length c0, .slice A1 l1.length c1] w fun e w' => e = .returned (.bool r) ∧ Below w.heap.size w w' := by
  have hu49 := Try.underlying49
  have HLEN := Aside0.mk hlen
  have HX := Aside0.mk hx
  clear hlen hx
  have HR0 := Aside0.mk hr0
  have HC0 := Aside0.mk hc0
  clear hr0 hc0
  have HR1 := Aside0.mk hr1
  have HC1 := Aside0.mk hc1
  clear hr1 hc1
  have HB := Aside0.mk (Below.refl w.heap.size w)
  have H : (if (l0.length : Int) = (wrap64 ((l1.length : Int) + 2)) then (if 0 ≤ (l1.length : Int) then (if (l1.length : Int) < (l0.length : Int) then (if ((rd_T25 l0 (l1.length : Int)).f1) = (-77) then (if ((rd_T25 l0 (l1.length : Int)).f0).toList = ([109, 97, 114, 107] : List UInt8) then (if 0 ≤ (wrap64 ((l1.length : Int) + 1)) then (if (wrap64 ((l1.length : Int) + 1)) < (l0.length : Int) then (if ((rd_T25 l0 (wrap64 ((l1.length : Int) + 1))).f3).toList = ([109, 97, 114, 107] : List UInt8) then (if (l1.length : Int) ≤ (l0.length : Int) then ((cofferref14_SameList.f k (l0.take ((l1.length : Int) : Int).toNat) l1).bind fun t297 => (cofferlaw14_staysS.j0 k L0 l1 (l1.length : Int) (!t297))) else (none)) else (none)) else (none)) else (none)) else (none)) else (none)) else (none)) else (none)) else (none)) = some r := h
  clear h
  have HC3 := Aside0.mk H
  clear H
  go_enter Try.func16, Try.ntmps16
  go_upto_region 2 with (fail)
  go_cut [47] (fun v47 wc => ∃ (kq : Nat) (x47_2 : Bool), v47 = .bool x47_2 ∧ Aside0 (cofferlaw14_staysS.j0 kq L0 l1 (l1.length : Int) x47_2 = some r) ∧ Aside0 (kq ≤ k) ∧ Aside0 (Below w.heap.size w wc))
  case first =>
    have H := HC3.out
    clear HC3
    by_cases c4 : (l0.length : Int) = (wrap64 ((l1.length : Int) + 2))
    · rw [if_pos c4] at H
      have c4b0 : ((l0.length : Int) == (wrap64 ((l1.length : Int) + 2))) = true := beq_iff_eq.mpr c4
      have c4b1 : ((l0.length : Int) != (wrap64 ((l1.length : Int) + 2))) = false := bne_eq_false_iff_eq.mpr c4
      clear c4
      (first | rw [c4b0] | (simp only [i64_w, i32_w]; rw [c4b0]) | rw [c4b1] | skip)
      by_cases c5 : 0 ≤ (l1.length : Int)
      · rw [if_pos c5] at H
        have c5b0 : decide (0 ≤ (l1.length : Int)) = true := decide_eq_true c5
        have c5b1 : decide (0 ≤ l1.length) = true := decide_eq_true (by omega)
        clear c5
        by_cases c6 : (l1.length : Int) < (l0.length : Int)
        · rw [if_pos c6] at H
          have c6b0 : decide ((l1.length : Int) < (l0.length : Int)) = true := decide_eq_true c6
          have c6b1 : decide (l1.length < l0.length) = true := decide_eq_true (Int.ofNat_lt.mp c6)
          clear c6
          by_cases c7 : ((rd_T25 l0 (l1.length : Int)).f1) = (-77)
          · rw [if_pos c7] at H
            have c7b0 : (((rd_T25 l0 (l1.length : Int)).f1) == (-77)) = true := beq_iff_eq.mpr c7
            have c7b1 : (((rd_T25 l0 (l1.length : Int)).f1) != (-77)) = false := bne_eq_false_iff_eq.mpr c7
            clear c7
            by_cases c8 : ((rd_T25 l0 (l1.length : Int)).f0).toList = ([109, 97, 114, 107] : List UInt8)
            · rw [if_pos c8] at H
              have c8b0 : (((rd_T25 l0 (l1.length : Int)).f0).toList == ([109, 97, 114, 107] : List UInt8)) = true := beq_iff_eq.mpr c8
              have c8b1 : (((rd_T25 l0 (l1.length : Int)).f0).toList != ([109, 97, 114, 107] : List UInt8)) = false := bne_eq_false_iff_eq.mpr c8
              clear c8
              obtain ⟨ji9, hji9⟩ : ∃ j_ : Int, (wrap64 ((l1.length : Int) + 1)) = j_ := ⟨_, rfl⟩
              replace H : (if 0 ≤ (ji9) then (if (ji9) < (l0.length : Int) then (if ((rd_T25 l0 (ji9)).f3).toList = ([109, 97, 114, 107] : List UInt8) then (if (l1.length : Int) ≤ (l0.length : Int) then ((cofferref14_SameList.f k (l0.take ((l1.length : Int) : Int).toNat) l1).bind fun t297 => (cofferlaw14_staysS.j0 k L0 l1 (l1.length : Int) (!t297))) else (none)) else (none)) else (none)) else (none)) = some r := by first | (rw [hji9] at H; exact H) | (simp only [hji9] at H ⊢; exact H)
              have hji9w : (IntKind.i64.wrap ((l1.length : Int) + 1)) = ji9 := (i64_w _).trans hji9
              by_cases c10 : 0 ≤ (ji9)
              · rw [if_pos c10] at H
                have c10b0 : decide (0 ≤ (ji9)) = true := decide_eq_true c10
                clear c10
                by_cases c11 : (ji9) < (l0.length : Int)
                · rw [if_pos c11] at H
                  have c11b0 : decide ((ji9) < (l0.length : Int)) = true := decide_eq_true c11
                  clear c11
                  by_cases c12 : ((rd_T25 l0 (ji9)).f3).toList = ([109, 97, 114, 107] : List UInt8)
                  · rw [if_pos c12] at H
                    have c12b0 : (((rd_T25 l0 (ji9)).f3).toList == ([109, 97, 114, 107] : List UInt8)) = true := beq_iff_eq.mpr c12
                    have c12b1 : (((rd_T25 l0 (ji9)).f3).toList != ([109, 97, 114, 107] : List UInt8)) = false := bne_eq_false_iff_eq.mpr c12
                    clear c12
                    have c13b0 := eq_true (of_decide_eq_true (by first | (with_reducible assumption) | assumption) : 0 ≤ (l1.length : Int))
                    by_cases c14 : (l1.length : Int) ≤ (l0.length : Int)
                    · rw [if_pos c14] at H
                      have c14b0 := eq_true c14
                      have c14b1 : decide ((l1.length : Int) ≤ (l0.length : Int)) = true := decide_eq_true c14
                      clear c14
                      obtain ⟨y293, hy293⟩ : ∃ y_ : List (S25), y_ = (l0.take ((l1.length : Int) : Int).toNat) := ⟨_, rfl⟩
                      replace H : ((cofferref14_SameList.f k y293 l1).bind fun t297 => (cofferlaw14_staysS.j0 k L0 l1 (l1.length : Int) (!t297))) = some r := by first | (rw [hy293]; with_reducible exact H) | (have H2_ := (Option.bind_some _ _).symm.trans H; rw [hy293]; with_reducible exact H2_) | (have H2_ := (Option.bind_some _ _).symm.trans H; with_reducible exact H2_) | with_reducible exact H | (rw [hy293]; exact H) | exact H
                      have Ny293 := Aside0.mk hy293
                      clear hy293
                      replace H := Option.bind_eq_some_iff.mp H
                      obtain ⟨t297, A150, H⟩ := H
                      replace H : (cofferlaw14_staysS.j0 k L0 l1 (l1.length : Int) (!t297)) = some r := H
                      have A15 := Aside0.mk A150
                      clear A150
                      have H' := Aside0.mk H
                      clear H
                      have p290 : 0 ≤ ((l1.length : Int) : Int) := of_decide_eq_true (by first | (with_reducible assumption) | assumption)
                      have q290 : (l1.length : Int) < (l0.length : Int) := of_decide_eq_true (by first | (with_reducible assumption) | assumption)
                      obtain ⟨ad290, A290_4, c290_4, e290, hx290_0, hx290_1, hx290_2, hx290_3, hx290_4, hl290_4, hi290_4⟩ := at_T25 HR0.out (l1.length : Int) p290 q290
                      cases e290
                      replace hx290_0 := (HB.out.cell (World.block_lt_of_cell? w _ hx290_0)).trans hx290_0
                      replace hx290_1 := (HB.out.cell (World.block_lt_of_cell? w _ hx290_1)).trans hx290_1
                      replace hx290_2 := (HB.out.cell (World.block_lt_of_cell? w _ hx290_2)).trans hx290_2
                      replace hx290_3 := (HB.out.cell (World.block_lt_of_cell? w _ hx290_3)).trans hx290_3
                      replace hx290_4 := (HB.out.cell (World.block_lt_of_cell? w _ hx290_4)).trans hx290_4
                      have HR290_4 := Aside0.mk hi290_4
                      have HC290_4 := Aside0.mk hl290_4
                      clear hi290_4 hl290_4
                      (try simp only [Go.IntWalk.toNatUp] at hx290_0)
                      (try simp only [Go.IntWalk.toNatUp] at hx290_1)
                      (try simp only [Go.IntWalk.toNatUp] at hx290_2)
                      (try simp only [Go.IntWalk.toNatUp] at hx290_3)
                      (try simp only [Go.IntWalk.toNatUp] at hx290_4)
                      replace p290 := eq_true p290
                      replace q290 := eq_true q290
                      have p291 : 0 ≤ ((l1.length : Int) : Int) := of_decide_eq_true (by first | (with_reducible assumption) | assumption)
                      have q291 : (l1.length : Int) < (l0.length : Int) := of_decide_eq_true (by first | (with_reducible assumption) | assumption)
                      obtain ⟨ad291, A291_4, c291_4, e291, hx291_0, hx291_1, hx291_2, hx291_3, hx291_4, hl291_4, hi291_4⟩ := at_T25 HR0.out (l1.length : Int) p291 q291
                      obtain rfl : ad290 = ad291 := (by injection e291)
                      replace hx291_0 := (HB.out.cell (World.block_lt_of_cell? w _ hx291_0)).trans hx291_0
                      replace hx291_1 := (HB.out.cell (World.block_lt_of_cell? w _ hx291_1)).trans hx291_1
                      replace hx291_2 := (HB.out.cell (World.block_lt_of_cell? w _ hx291_2)).trans hx291_2
                      replace hx291_3 := (HB.out.cell (World.block_lt_of_cell? w _ hx291_3)).trans hx291_3
                      replace hx291_4 := (HB.out.cell (World.block_lt_of_cell? w _ hx291_4)).trans hx291_4
                      have HR291_4 := Aside0.mk hi291_4
                      have HC291_4 := Aside0.mk hl291_4
                      clear hi291_4 hl291_4
                      (try simp only [Go.IntWalk.toNatUp] at hx291_0)
                      (try simp only [Go.IntWalk.toNatUp] at hx291_1)
                      (try simp only [Go.IntWalk.toNatUp] at hx291_2)
                      (try simp only [Go.IntWalk.toNatUp] at hx291_3)
                      (try simp only [Go.IntWalk.toNatUp] at hx291_4)
                      replace p291 := eq_true p291
                      replace q291 := eq_true q291
                      have ea_ := Option.some.inj (hx290_4.symm.trans hx291_4)
                      injection ea_ with ea_ en_ ec_
                      subst ea_
                      subst ec_
                      clear en_
                      have p292 : 0 ≤ ((ji9) : Int) := of_decide_eq_true (by first | (with_reducible assumption) | assumption)
                      have q292 : (ji9) < (l0.length : Int) := of_decide_eq_true (by first | (with_reducible assumption) | assumption)
                      obtain ⟨ad292, A292_4, c292_4, e292, hx292_0, hx292_1, hx292_2, hx292_3, hx292_4, hl292_4, hi292_4⟩ := at_T25 HR0.out (ji9) p292 q292
                      obtain rfl : ad290 = ad292 := (by injection e292)
                      replace hx292_0 := (HB.out.cell (World.block_lt_of_cell? w _ hx292_0)).trans hx292_0
                      replace hx292_1 := (HB.out.cell (World.block_lt_of_cell? w _ hx292_1)).trans hx292_1
                      replace hx292_2 := (HB.out.cell (World.block_lt_of_cell? w _ hx292_2)).trans hx292_2
                      replace hx292_3 := (HB.out.cell (World.block_lt_of_cell? w _ hx292_3)).trans hx292_3
                      replace hx292_4 := (HB.out.cell (World.block_lt_of_cell? w _ hx292_4)).trans hx292_4
                      have HR292_4 := Aside0.mk hi292_4
                      have HC292_4 := Aside0.mk hl292_4
                      clear hi292_4 hl292_4
                      replace p292 := eq_true p292
                      replace q292 := eq_true q292
                      have q16 : ((l1.length : Int) : Int) ≤ ((l0.length : Int) : Int) := of_decide_eq_true (by first | (with_reducible assumption) | assumption)
                      obtain ⟨i016, hi016, _, hsz16, _⟩ := info_parts info25
                      have hroom16 : l0.length ≤ c0 := HC0.out
                      have hC16 : Kd.C k25 _ (some ad290) l0.length l0 := HR0.out
                      have hcut16 := cut_to (P := Try.prog) 22 25 .i64 Try.underlying22 hi016 (some ad290) l0.length c0 (l1.length : Int) (of_decide_eq_true (by first | (with_reducible assumption) | assumption)) q16 hroom16
                      have hr16 := Kd.C_take (m := ((l1.length : Int) : Int).toNat) hC16 (by omega)
                      have hy16 : y293.length = ((l1.length : Int) : Int).toNat := (by rw [Ny293.out, List.length_take]; omega)
                      rw [← Ny293.out] at hr16
                      rw [← hy16] at hcut16
                      have HR296 := Aside0.mk hr16
                      have HC296 := Aside0.mk (show y293.length ≤ c0 from by omega)
                      clear hr16 hC16 hroom16 hi016 hsz16
                      have KY16 := Aside0.mk hy16
                      clear hy16
                      replace q16 := eq_true q16
                      go_wp2_with (first | (go_at_call 14; (with_reducible refine (cofferref14_SameList.calls k _ _ y293 _ _ l1 t297 _ ?side1 ?side2 ?side3 ?side4 A15.out).mono ?_); (case side1 => repeat (first | exact (Kd.C_below HR296.out HB.out) | (with_reducible refine Kd.C_alloc ?_ _) | (with_reducible refine Kd.C_drewN ?_ _) | (with_reducible refine Kd.C_drew ?_))); (case side2 => exact HC296.out); (case side3 => repeat (first | exact (Kd.C_below HR1.out HB.out) | (with_reducible refine Kd.C_alloc ?_ _) | (with_reducible refine Kd.C_drewN ?_ _) | (with_reducible refine Kd.C_drew ?_))); (case side4 => exact HC1.out); rintro e w17 ⟨rfl, hb⟩; have n0_ := Aside0.mk (below_step (by repeat (first | (with_reducible first | exact HB.out | apply below_alloc | apply pw_below_drewN | apply below_drew1) | exact HB.out)) hb); clear HB; have HB := n0_; clear n0_; (try clear hb); (try clear hb2); (try clear hk); (try clear hi)))
                      go_meet
                      case rel => exact ⟨_, (!t297), (by first | rfl | (simp; done) | (simp [Go.Proofs.Ytmgiolijjheodaa.Z.bne_nil, Go.Proofs.Ytmgiolijjheodaa.Z.beq_nil]; done) | (simp [*]; done)), H', ⟨by first | omega | exact Nat.le_refl _⟩, ⟨by repeat (first | (with_reducible first | exact HB.out | apply below_alloc | apply pw_below_drewN | apply below_drew1) | exact HB.out)⟩⟩
                    · rw [if_neg c14] at H
                      exact absurd H (by simp)
                  · rw [if_neg c12] at H
                    exact absurd H (by simp)
                · rw [if_neg c11] at H
                  exact absurd H (by simp)
              · rw [if_neg c10] at H
                exact absurd H (by simp)
            · rw [if_neg c8] at H
              exact absurd H (by simp)
          · rw [if_neg c7] at H
            exact absurd H (by simp)
        · rw [if_neg c6] at H
          exact absurd H (by simp)
      · rw [if_neg c5] at H
        exact absurd H (by simp)
    · rw [if_neg c4] at H
      exact absurd H (by simp)
  case rest =>
    clear HC3
    try clear c1
    try clear q1
    try clear c2
    try clear p2
    try clear q2
    try clear hx2
    try clear c4
    try clear c4b0
    try clear c4b1
    try clear c5
    try clear c5b0
    try clear c5b1
    try clear c6
    try clear c6b0
    try clear c6b1
    try clear p6
    try clear c7
    try clear c7b0
    try clear c7b1
    try clear c8
    try clear c8b0
    try clear c8b1
    try clear c10
    try clear c10b0
    try clear c11
    try clear c11b0
    try clear c12
    try clear c12b0
    try clear c12b1
    try clear c13
    try clear c13b0
    try clear c14
    try clear c14b0
    try clear c14b1
    try clear c16
    try clear q16
    try clear hx290_0
    try clear hx290_1
    try clear hx290_2
    try clear hx290_3
    try clear hx290_4
    try clear hx291_0
    try clear hx291_1
    try clear hx291_2
    try clear hx291_3
    try clear hx291_4
    try clear hx292_0
    try clear hx292_1
    try clear hx292_2
    try clear hx292_3
    try clear hx292_4
    try clear p290
    try clear p291
    try clear p292
    try clear q16
    try clear q290
    try clear q291
    try clear q292
    obtain ⟨kq, x47_2, rfl, HA, HJ2, HB⟩ := hcut
    cases kq with
    | zero => exact absurd HA.out (by simp [cofferlaw14_staysS.j0])
    | succ kj2 =>
      have H := HA.out
      clear HA
      simp only [cofferlaw14_staysS.j0] at H
      by_cases c18 : x47_2 = true
      · subst c18
        rw [if_pos rfl] at H
        exact absurd H (by simp)
      · replace c18 := Bool.eq_false_iff.mpr c18
        subst c18
        have H1 : (cofferlaw14_staysS.l0 kj2 L0 l1 (l1.length : Int) 0) = some r := by rw [if_neg (show ¬ (false = true) by decide)] at H; exact H
        clear H
        have H := H1
        clear H1
        have H' := Aside0.mk H
        clear H
        go_wp2
        go_loopg [6] kj2 (fun kq v6 w' => ∃ (x6_2 : Int), v6 = .int .i64 x6_2 ∧ Aside0 (cofferlaw14_staysS.l0 kq L0 l1 (l1.length : Int) x6_2 = some r) ∧ Aside0 (kq ≤ kj2) ∧ Aside0 (Below w.heap.size w w'))
        case atStart => exact ⟨(0), (by first | rfl | (simp; done) | (simp [Go.Proofs.Ytmgiolijjheodaa.Z.bne_nil, Go.Proofs.Ytmgiolijjheodaa.Z.beq_nil]; done) | (simp [*]; done)), H', ⟨Nat.le_refl _⟩, ⟨by repeat (first | (with_reducible first | exact HB.out | apply below_alloc | apply pw_below_drewN | apply below_drew1) | exact HB.out)⟩⟩
        case round =>
          clear H'
          try clear c1
          try clear q1
          try clear c2
          try clear p2
          try clear q2
          try clear hx2
          try clear c4
          try clear c4b0
          try clear c4b1
          try clear c5
          try clear c5b0
          try clear c5b1
          try clear c6
          try clear c6b0
          try clear c6b1
          try clear p6
          try clear c7
          try clear c7b0
          try clear c7b1
          try clear c8
          try clear c8b0
          try clear c8b1
          try clear c10
          try clear c10b0
          try clear c11
          try clear c11b0
          try clear c12
          try clear c12b0
          try clear c12b1
          try clear c13
          try clear c13b0
          try clear c14
          try clear c14b0
          try clear c14b1
          try clear c16
          try clear q16
          try clear c18
          try clear hx290_0
          try clear hx290_1
          try clear hx290_2
          try clear hx290_3
          try clear hx290_4
          try clear hx291_0
          try clear hx291_1
          try clear hx291_2
          try clear hx291_3
          try clear hx291_4
          try clear hx292_0
          try clear hx292_1
          try clear hx292_2
          try clear hx292_3
          try clear hx292_4
          try clear p2
          try clear p290
          try clear p291
          try clear p292
          try clear p6
          try clear q1
          try clear q16
          try clear q2
          try clear q290
          try clear q291
          try clear q292
          obtain ⟨x6_2, rfl, HA, HK2, HB⟩ := hrel
          cases gk with
          | zero => exact absurd HA.out (by simp [cofferlaw14_staysS.l0])
          | succ k2 =>
            have H := HA.out
            clear HA
            simp only [cofferlaw14_staysS.l0] at H
            by_cases c19 : x6_2 < (l1.length : Int)
            · rw [if_pos c19] at H
              have c19b0 : decide (x6_2 < (l1.length : Int)) = true := decide_eq_true c19
              clear c19
              by_cases c20 : 0 ≤ x6_2
              · rw [if_pos c20] at H
                have c20b0 : decide (0 ≤ x6_2) = true := decide_eq_true c20
                clear c20
                by_cases c21 : x6_2 < (l1.length : Int)
                · rw [if_pos c21] at H
                  have c21b0 : decide (x6_2 < (l1.length : Int)) = true := decide_eq_true c21
                  clear c21
                  by_cases c22 : x6_2 < (L0.length : Int)
                  · rw [if_pos c22] at H
                    have c22b0 : decide (x6_2 < (l0.length : Int)) = true := by rw [HLEN.out]; exact decide_eq_true c22
                    clear c22
                    obtain ⟨ji23, hji23⟩ : ∃ j_ : Int, (wrap64 ((((rd_T25 l1 x6_2).f4).length : Int) + 1)) = j_ := ⟨_, rfl⟩
                    replace H : (if 0 ≤ (ji23) then (if (ji23) ≤ (((rd_T25 L0 x6_2).f4).length : Int) then ((some (((rd_T25 L0 x6_2).f4).take ((ji23) : Int).toNat : List (S49))).bind fun y300 => (if 0 ≤ (((rd_T25 l1 x6_2).f4).length : Int) then (if (((rd_T25 l1 x6_2).f4).length : Int) < (y300.length : Int) then (if (rd_T49 y300 (((rd_T25 l1 x6_2).f4).length : Int)).f0 = (⟨#[109, 97, 114, 107]⟩ : ByteArray) then (if (rd_T49 y300 (((rd_T25 l1 x6_2).f4).length : Int)).f1 = (⟨#[]⟩ : ByteArray) then (cofferlaw14_staysS.l0 k2 L0 l1 (l1.length : Int) (wrap64 (x6_2 + 1))) else (none)) else (none)) else (none)) else (none))) else (none)) else (none)) = some r := by first | (rw [hji23] at H; exact H) | (simp only [hji23] at H ⊢; exact H)
                    have hji23w : (IntKind.i64.wrap ((((rd_T25 l1 x6_2).f4).length : Int) + 1)) = ji23 := (i64_w _).trans hji23
                    by_cases c24 : 0 ≤ (ji23)
                    · rw [if_pos c24] at H
                      have c24b0 := eq_true c24
                      have c24b1 : decide (0 ≤ (ji23)) = true := decide_eq_true c24
                      clear c24
                      by_cases c25 : (ji23) ≤ (((rd_T25 L0 x6_2).f4).length : Int)
                      · rw [if_pos c25] at H
                        have c25b0 := eq_true c25
                        have c25b1 : decide ((ji23) ≤ (((rd_T25 L0 x6_2).f4).length : Int)) = true := decide_eq_true c25
                        clear c25
                        obtain ⟨y300, hy300⟩ : ∃ y_ : List (S49), y_ = (((rd_T25 L0 x6_2).f4).take ((ji23) : Int).toNat) := ⟨_, rfl⟩
                        replace H : (if 0 ≤ (((rd_T25 l1 x6_2).f4).length : Int) then (if (((rd_T25 l1 x6_2).f4).length : Int) < (y300.length : Int) then (if (rd_T49 y300 (((rd_T25 l1 x6_2).f4).length : Int)).f0 = (⟨#[109, 97, 114, 107]⟩ : ByteArray) then (if (rd_T49 y300 (((rd_T25 l1 x6_2).f4).length : Int)).f1 = (⟨#[]⟩ : ByteArray) then (cofferlaw14_staysS.l0 k2 L0 l1 (l1.length : Int) (wrap64 (x6_2 + 1))) else (none)) else (none)) else (none)) else (none)) = some r := by first | (rw [hy300]; with_reducible exact H) | (have H2_ := (Option.bind_some _ _).symm.trans H; rw [hy300]; with_reducible exact H2_) | (have H2_ := (Option.bind_some _ _).symm.trans H; with_reducible exact H2_) | with_reducible exact H | (rw [hy300]; exact H) | exact H
                        have Ny300 := Aside0.mk hy300
                        clear hy300
                        by_cases c26 : 0 ≤ (((rd_T25 l1 x6_2).f4).length : Int)
                        · rw [if_pos c26] at H
                          have c26b0 : decide (0 ≤ (((rd_T25 l1 x6_2).f4).length : Int)) = true := decide_eq_true c26
                          have c26b1 : decide (0 ≤ ((rd_T25 l1 x6_2).f4).length) = true := decide_eq_true (by omega)
                          clear c26
                          by_cases c27 : (((rd_T25 l1 x6_2).f4).length : Int) < (y300.length : Int)
                          · rw [if_pos c27] at H
                            have c27b0 : decide ((((rd_T25 l1 x6_2).f4).length : Int) < (y300.length : Int)) = true := decide_eq_true c27
                            have c27b1 : decide (((rd_T25 l1 x6_2).f4).length < y300.length) = true := decide_eq_true (Int.ofNat_lt.mp c27)
                            clear c27
                            by_cases c28 : (rd_T49 y300 (((rd_T25 l1 x6_2).f4).length : Int)).f0 = (⟨#[109, 97, 114, 107]⟩ : ByteArray)
                            · rw [if_pos c28] at H
                              by_cases c29 : (rd_T49 y300 (((rd_T25 l1 x6_2).f4).length : Int)).f1 = (⟨#[]⟩ : ByteArray)
                              · rw [if_pos c29] at H
                                have C28 := Aside0.mk c28
                                have C29 := Aside0.mk c29
                                clear c28 c29
                                have H' := Aside0.mk H
                                clear H
                                have p298 : 0 ≤ (x6_2 : Int) := of_decide_eq_true (by first | (with_reducible assumption) | assumption)
                                have q298 : x6_2 < (l1.length : Int) := of_decide_eq_true (by first | (with_reducible assumption) | assumption)
                                obtain ⟨ad298, A298_4, c298_4, e298, hx298_0, hx298_1, hx298_2, hx298_3, hx298_4, hl298_4, hi298_4⟩ := at_T25 HR1.out x6_2 p298 q298
                                cases e298
                                replace hx298_0 := (HB.out.cell (World.block_lt_of_cell? w _ hx298_0)).trans hx298_0
                                replace hx298_1 := (HB.out.cell (World.block_lt_of_cell? w _ hx298_1)).trans hx298_1
                                replace hx298_2 := (HB.out.cell (World.block_lt_of_cell? w _ hx298_2)).trans hx298_2
                                replace hx298_3 := (HB.out.cell (World.block_lt_of_cell? w _ hx298_3)).trans hx298_3
                                replace hx298_4 := (HB.out.cell (World.block_lt_of_cell? w _ hx298_4)).trans hx298_4
                                have HR298_4 := Aside0.mk hi298_4
                                have HC298_4 := Aside0.mk hl298_4
                                clear hi298_4 hl298_4
                                replace p298 := eq_true p298
                                replace q298 := eq_true q298
                                have p299 : 0 ≤ (x6_2 : Int) := of_decide_eq_true (by first | (with_reducible assumption) | assumption)
                                have q299 : x6_2 < (l0.length : Int) := of_decide_eq_true (by first | (with_reducible assumption) | assumption)
                                obtain ⟨ad299, A299_4, c299_4, n299_4, e299, hx299_0, hx299_1, hx299_2, hx299_3, hx299_4, hl299_4, hi299_4⟩ := at_X HX.out x6_2 p299 (by have := q299; rw [← HLEN.out]; exact this)
                                cases e299
                                replace hx299_0 := (HB.out.cell (World.block_lt_of_cell? w _ hx299_0)).trans hx299_0
                                replace hx299_1 := (HB.out.cell (World.block_lt_of_cell? w _ hx299_1)).trans hx299_1
                                replace hx299_2 := (HB.out.cell (World.block_lt_of_cell? w _ hx299_2)).trans hx299_2
                                replace hx299_3 := (HB.out.cell (World.block_lt_of_cell? w _ hx299_3)).trans hx299_3
                                replace hx299_4 := (HB.out.cell (World.block_lt_of_cell? w _ hx299_4)).trans hx299_4
                                have HR299_4 := Aside0.mk hi299_4
                                have HC299_4 := Aside0.mk hl299_4
                                clear hi299_4 hl299_4
                                replace p299 := eq_true p299
                                replace q299 := eq_true q299
                                have q30 : ((ji23) : Int) ≤ ((((rd_T25 L0 x6_2).f4).length : Int) : Int) := of_decide_eq_true (by first | (with_reducible assumption) | assumption)
                                obtain ⟨i030, hi030, _, hsz30, _⟩ := info_parts info49
                                have hroom30 : ((rd_T25 L0 x6_2).f4).length ≤ c299_4 := HC299_4.out
                                have hC30 : Kd.C k49 _ A299_4 ((rd_T25 L0 x6_2).f4).length ((rd_T25 L0 x6_2).f4) := HR299_4.out
                                have hcut30 := Z.cut_wide (P := Try.prog) 23 49 .i64 Try.underlying23 hi030 A299_4 n299_4 c299_4 (ji23) (of_decide_eq_true (by first | (with_reducible assumption) | assumption)) (by have := q30; have := hroom30; omega)
                                have hr30 := Kd.C_take (m := ((ji23) : Int).toNat) hC30 (by omega)
                                have hy30 : y300.length = ((ji23) : Int).toNat := (by rw [Ny300.out, List.length_take]; omega)
                                rw [← Ny300.out] at hr30
                                rw [← hy30] at hcut30
                                have HR303 := Aside0.mk hr30
                                have HC303 := Aside0.mk (show y300.length ≤ c299_4 from by omega)
                                clear hr30 hC30 hroom30 hi030 hsz30
                                have KY30 := Aside0.mk hy30
                                clear hy30
                                replace q30 := eq_true q30
                                have p304 : 0 ≤ ((((rd_T25 l1 x6_2).f4).length : Int) : Int) := of_decide_eq_true (by first | (with_reducible assumption) | assumption)
                                have q304 : (((rd_T25 l1 x6_2).f4).length : Int) < (y300.length : Int) := of_decide_eq_true (by first | (with_reducible assumption) | assumption)
                                obtain ⟨ad304, e304, hx304_0, hx304_1⟩ := at_T49 HR303.out (((rd_T25 l1 x6_2).f4).length : Int) p304 q304
                                cases e304
                                replace hx304_0 := (HB.out.cell (World.block_lt_of_cell? w _ hx304_0)).trans hx304_0
                                replace hx304_1 := (HB.out.cell (World.block_lt_of_cell? w _ hx304_1)).trans hx304_1
                                rw [C28.out] at hx304_0
                                rw [C29.out] at hx304_1
                                (try simp only [Go.IntWalk.toNatUp] at hx304_0)
                                (try simp only [Go.IntWalk.toNatUp] at hx304_1)
                                replace p304 := eq_true p304
                                replace q304 := eq_true q304
                                go_wp2
                                go_roundg k2
                                case measure => have := HJ2.out; have := HK2.out; omega
                                case rel => exact ⟨(wrap64 (x6_2 + 1)), (by first | rfl | (simp; done) | (simp [Go.Proofs.Ytmgiolijjheodaa.Z.bne_nil, Go.Proofs.Ytmgiolijjheodaa.Z.beq_nil]; done) | (simp [*]; done)), H', ⟨by have := HJ2.out; have := HK2.out; omega⟩, ⟨by repeat (first | (with_reducible first | exact HB.out | apply below_alloc | apply pw_below_drewN | apply below_drew1) | exact HB.out)⟩⟩
                              · rw [if_neg c29] at H
                                exact absurd H (by simp)
                            · rw [if_neg c28] at H
                              exact absurd H (by simp)
                          · rw [if_neg c27] at H
                            exact absurd H (by simp)
                        · rw [if_neg c26] at H
                          exact absurd H (by simp)
                      · rw [if_neg c25] at H
                        exact absurd H (by simp)
                    · rw [if_neg c24] at H
                      exact absurd H (by simp)
                  · rw [if_neg c22] at H
                    exact absurd H (by simp)
                · rw [if_neg c21] at H
                  exact absurd H (by simp)
              · rw [if_neg c20] at H
                exact absurd H (by simp)
            · rw [if_neg c19] at H
              have c19b0 : decide (x6_2 < (l1.length : Int)) = false := decide_eq_false c19
              clear c19
              obtain rfl := Option.some.inj H
              go_wp2
              go_ret
              exact ⟨by first | rfl | (simp [errW_none, errW_some] <;> rfl) | (simp [*, errW_none, errW_some] <;> rfl), by repeat (first | (with_reducible first | exact HB.out | apply below_alloc | apply pw_below_drewN | apply below_drew1) | exact HB.out)⟩

end Go.Proofs.Ytmgiolijjheodaa.X
