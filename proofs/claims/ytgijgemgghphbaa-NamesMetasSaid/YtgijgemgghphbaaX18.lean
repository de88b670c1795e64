-- By a program of this session (wip/xprint.py over the kit's print).
import Derived.Test.YtgijgemgghphbaaX0
import Derived.Test.YtgijgemgghphbaaX6
import Derived.Test.YtgijgemgghphbaaX9
import Derived.Test.YtgijgemgghphbaaX15
import Derived.Test.YtgijgemgghphbaaX16
import Derived.Test.YtgijgemgghphbaaX17
import Derived.Test.YtgijgemgghphbaaLendS
import Derived.Test.YtgijgemgghphbaaKeptS
namespace Go.Proofs.Ytgijgemgghphbaa.X
open Go.RowKit Go.Proofs.YtgijgemgghphbaaW.PrintWords Go.Proofs.YtgijgemgghphbaaW.PrintLast Go.Proofs.YtgijgemgghphbaaW.PrintMore
attribute [local go_sem] Go.Proofs.Ytgijgemgghphbaa.Z.leq_string Go.Proofs.Ytgijgemgghphbaa.Z.gtr_string Go.Proofs.Ytgijgemgghphbaa.Z.geq_string   -- for this text's walks alone
set_option linter.unusedVariables false
set_option linter.unusedSimpArgs false

/-! ### cofferlaw12_NamesMetas: function 4 -/
mutual
def cofferlaw12_NamesMetas.j0 : Nat → List (S31) → Bool → Option (Bool)
  | 0, _, _ => none
  | k + 1, x3, x32 => if x32 = true then (none) else (cofferlaw12_NamesMetas.l0 k x3 0)
def cofferlaw12_NamesMetas.l0 : Nat → List (S31) → Int → Option (Bool)
  | 0, _, _ => none
  | k + 1, x3, x7 => if x7 < (x3.length : Int) then ((names_Meta.f k x3).bind fun t168 => (if 0 ≤ x7 then (if ((rd_T31 x3 x7).f1).size + 40 ≤ 9223372036854775807 then ((some (x3.set (x7 : Int).toNat (⟨(rd_T31 x3 x7).f0, ((rd_T31 x3 x7).f1) ++ (⟨#[48, 49, 50, 51, 52, 53, 54, 55, 56, 57, 48, 49, 50, 51, 52, 53, 54, 55, 56, 57, 48, 49, 50, 51, 52, 53, 54, 55, 56, 57, 48, 49, 50, 51, 52, 53, 54, 55, 56, 57]⟩ : ByteArray)⟩ : S31) : List (S31))).bind fun y170 => ((some (([] : List (S31)) : List (S31))).bind fun y171 => (if y171.length + y170.length < 4398046511104 then ((names_Meta.f k y170).bind fun t177 => ((cofferref12_Meta.f k (y171 ++ y170)).bind fun t178 => (if t177 = t178 then (cofferlaw12_NamesMetas.l0 k y170 (wrap64 (x7 + 1))) else (none)))) else (none)))) else (none)) else (none))) else (some true)
end
def cofferlaw12_NamesMetas.f (k : Nat) (l0 : List (S31)) : Option (Bool) := (cofferlaw12_first.f k).bind fun t160 => (if t160 = true then ((cofferlaw12_lend.f l0).bind fun t161 => ((cofferref12_Meta.f k l0).bind fun t164 => ((names_Meta.f k t161).bind fun t165 => ((names_Meta.f k t161).bind fun t166 => (if t165 = t164 then (if t166 = t164 then ((cofferlaw12_keptS.f k t161 l0).bind fun t167 => (cofferlaw12_NamesMetas.j0 k t161 (!t167))) else (cofferlaw12_NamesMetas.j0 k t161 true)) else (cofferlaw12_NamesMetas.j0 k t161 true)))))) else (none))
theorem cofferlaw12_NamesMetas.mono_l : ∀ k, (∀ y0 y1, LeO (cofferlaw12_NamesMetas.j0 k y0 y1) (cofferlaw12_NamesMetas.j0 (k + 1) y0 y1)) ∧ (∀ y0 y1, LeO (cofferlaw12_NamesMetas.l0 k y0 y1) (cofferlaw12_NamesMetas.l0 (k + 1) y0 y1))
  | 0 => ⟨fun _ _ r h => by simp [cofferlaw12_NamesMetas.j0] at h, fun _ _ r h => by simp [cofferlaw12_NamesMetas.l0] at h⟩
  | k + 1 => by
    obtain ⟨ih0, ih1⟩ := cofferlaw12_NamesMetas.mono_l k
    refine ⟨?_, ?_⟩
    · intro y0 y1
      unfold cofferlaw12_NamesMetas.j0
      repeat' first
      | (with_reducible exact ih0 _ _)
      | (with_reducible exact ih1 _ _)
      | (with_reducible exact cofferlaw12_first.mono _)
      | (with_reducible exact cofferlaw12_keptS.mono _ _ _)
      | (with_reducible exact cofferref12_Meta.mono _ _)
      | (with_reducible exact names_Meta.mono _ _)
      | (with_reducible exact LeO.refl _)
      | (with_reducible exact LeO.none _)
      | (with_reducible refine LeO.ite ?_ ?_)
      | (with_reducible refine LeO.bind ?_ (fun _ => ?_))
      | exact ih0 _ _
      | exact ih1 _ _
      | exact cofferlaw12_first.mono _
      | exact cofferlaw12_keptS.mono _ _ _
      | exact cofferref12_Meta.mono _ _
      | exact names_Meta.mono _ _
      | exact LeO.none _
      | refine LeO.ite ?_ ?_
      | refine LeO.bind ?_ (fun _ => ?_)
    · intro y0 y1
      unfold cofferlaw12_NamesMetas.l0
      repeat' first
      | (with_reducible exact ih0 _ _)
      | (with_reducible exact ih1 _ _)
      | (with_reducible exact cofferlaw12_first.mono _)
      | (with_reducible exact cofferlaw12_keptS.mono _ _ _)
      | (with_reducible exact cofferref12_Meta.mono _ _)
      | (with_reducible exact names_Meta.mono _ _)
      | (with_reducible exact LeO.refl _)
      | (with_reducible exact LeO.none _)
      | (with_reducible refine LeO.ite ?_ ?_)
      | (with_reducible refine LeO.bind ?_ (fun _ => ?_))
      | exact ih0 _ _
      | exact ih1 _ _
      | exact cofferlaw12_first.mono _
      | exact cofferlaw12_keptS.mono _ _ _
      | exact cofferref12_Meta.mono _ _
      | exact names_Meta.mono _ _
      | exact LeO.none _
      | refine LeO.ite ?_ ?_
      | refine LeO.bind ?_ (fun _ => ?_)
theorem cofferlaw12_NamesMetas.mono : ∀ a0 k, LeO (cofferlaw12_NamesMetas.f k a0) (cofferlaw12_NamesMetas.f (k + 1) a0) := by
  intro a0 k
  obtain ⟨ih0, ih1⟩ := cofferlaw12_NamesMetas.mono_l k
  unfold cofferlaw12_NamesMetas.f
  repeat' first
      | (with_reducible exact ih0 _ _)
      | (with_reducible exact ih1 _ _)
      | (with_reducible exact cofferlaw12_first.mono _)
      | (with_reducible exact cofferlaw12_keptS.mono _ _ _)
      | (with_reducible exact cofferref12_Meta.mono _ _)
      | (with_reducible exact names_Meta.mono _ _)
      | (with_reducible exact LeO.refl _)
      | (with_reducible exact LeO.none _)
      | (with_reducible refine LeO.ite ?_ ?_)
      | (with_reducible refine LeO.bind ?_ (fun _ => ?_))
      | exact ih0 _ _
      | exact ih1 _ _
      | exact cofferlaw12_first.mono _
      | exact cofferlaw12_keptS.mono _ _ _
      | exact cofferref12_Meta.mono _ _
      | exact names_Meta.mono _ _
      | exact LeO.none _
      | refine LeO.ite ?_ ?_
      | refine LeO.bind ?_ (fun _ => ?_)
set_option maxHeartbeats 8000000 in
set_option maxRecDepth 100000 in
theorem cofferlaw12_NamesMetas.calls (k : Nat) (A0 : Option Addr) (c0 : Nat) (l0 : List (S31)) (r : Bool) (w : World) (hr0 : Kd.C k31 w A0 l0.length l0) (hc0 : l0.length ≤ c0) (h : cofferlaw12_NamesMetas.f k l0 = some r) :
    Calls Try.prog 4 #[.slice A0 l0.length c0] w fun e w' => e = .returned (.bool r) ∧ Below w.heap.size w w' := by
  have HR0 := Aside0.mk hr0
  have HC0 := Aside0.mk hc0
  clear hr0 hc0
  have HB := Aside0.mk (Below.refl w.heap.size w)
  have H : ((cofferlaw12_first.f k).bind fun t160 => (if t160 = true then ((cofferlaw12_lend.f l0).bind fun t161 => ((cofferref12_Meta.f k l0).bind fun t164 => ((names_Meta.f k t161).bind fun t165 => ((names_Meta.f k t161).bind fun t166 => (if t165 = t164 then (if t166 = t164 then ((cofferlaw12_keptS.f k t161 l0).bind fun t167 => (cofferlaw12_NamesMetas.j0 k t161 (!t167))) else (cofferlaw12_NamesMetas.j0 k t161 true)) else (cofferlaw12_NamesMetas.j0 k t161 true)))))) else (none))) = some r := h
  clear h
  replace H := Option.bind_eq_some_iff.mp H
  obtain ⟨t160, A20, H⟩ := H
  replace H : (if t160 = true then ((cofferlaw12_lend.f l0).bind fun t161 => ((cofferref12_Meta.f k l0).bind fun t164 => ((names_Meta.f k t161).bind fun t165 => ((names_Meta.f k t161).bind fun t166 => (if t165 = t164 then (if t166 = t164 then ((cofferlaw12_keptS.f k t161 l0).bind fun t167 => (cofferlaw12_NamesMetas.j0 k t161 (!t167))) else (cofferlaw12_NamesMetas.j0 k t161 true)) else (cofferlaw12_NamesMetas.j0 k t161 true)))))) else (none)) = some r := H
  have A2 := Aside0.mk A20
  clear A20
  by_cases c3 : t160 = true
  · subst c3
    have H1 : ((cofferlaw12_lend.f l0).bind fun t161 => ((cofferref12_Meta.f k l0).bind fun t164 => ((names_Meta.f k t161).bind fun t165 => ((names_Meta.f k t161).bind fun t166 => (if t165 = t164 then (if t166 = t164 then ((cofferlaw12_keptS.f k t161 l0).bind fun t167 => (cofferlaw12_NamesMetas.j0 k t161 (!t167))) else (cofferlaw12_NamesMetas.j0 k t161 true)) else (cofferlaw12_NamesMetas.j0 k t161 true)))))) = some r := by rw [if_pos rfl] at H; exact H
    clear H
    have H := H1
    clear H1
    replace H := Option.bind_eq_some_iff.mp H
    obtain ⟨t161, A40, H⟩ := H
    replace H : ((cofferref12_Meta.f k l0).bind fun t164 => ((names_Meta.f k t161).bind fun t165 => ((names_Meta.f k t161).bind fun t166 => (if t165 = t164 then (if t166 = t164 then ((cofferlaw12_keptS.f k t161 l0).bind fun t167 => (cofferlaw12_NamesMetas.j0 k t161 (!t167))) else (cofferlaw12_NamesMetas.j0 k t161 true)) else (cofferlaw12_NamesMetas.j0 k t161 true))))) = some r := H
    have A4 := Aside0.mk A40
    clear A40
    replace H := Option.bind_eq_some_iff.mp H
    obtain ⟨t164, A50, H⟩ := H
    replace H : ((names_Meta.f k t161).bind fun t165 => ((names_Meta.f k t161).bind fun t166 => (if t165 = t164 then (if t166 = t164 then ((cofferlaw12_keptS.f k t161 l0).bind fun t167 => (cofferlaw12_NamesMetas.j0 k t161 (!t167))) else (cofferlaw12_NamesMetas.j0 k t161 true)) else (cofferlaw12_NamesMetas.j0 k t161 true)))) = some r := H
    have A5 := Aside0.mk A50
    clear A50
    replace H := Option.bind_eq_some_iff.mp H
    obtain ⟨t165, A60, H⟩ := H
    replace H : ((names_Meta.f k t161).bind fun t166 => (if t165 = t164 then (if t166 = t164 then ((cofferlaw12_keptS.f k t161 l0).bind fun t167 => (cofferlaw12_NamesMetas.j0 k t161 (!t167))) else (cofferlaw12_NamesMetas.j0 k t161 true)) else (cofferlaw12_NamesMetas.j0 k t161 true))) = some r := H
    have A6 := Aside0.mk A60
    clear A60
    replace H := Option.bind_eq_some_iff.mp H
    obtain ⟨t166, A70, H⟩ := H
    replace H : (if t165 = t164 then (if t166 = t164 then ((cofferlaw12_keptS.f k t161 l0).bind fun t167 => (cofferlaw12_NamesMetas.j0 k t161 (!t167))) else (cofferlaw12_NamesMetas.j0 k t161 true)) else (cofferlaw12_NamesMetas.j0 k t161 true)) = some r := H
    have A7 := Aside0.mk A70
    clear A70
    have HC8 := Aside0.mk H
    clear H
    go_enter Try.func4, Try.ntmps4
    go_upto_region 7 with (first | ((with_reducible refine gate_callee (f := 12) rfl ?_); refine goesL_ (some 9) rfl rfl Try.func12 (by kernel_rfl) rfl #[] rfl (by (try simp only [List.map_toArray, List.map_cons, List.map_nil]); first | done | rfl | (simp only [List.length_drop, List.length_take]; rfl)) ?_; (with_reducible refine (cofferlaw12_first.calls k  true _ A2.out).mono ?_); rintro e w9 ⟨rfl, hb⟩; refine ⟨_, rfl, ?_⟩; have n0_ := Aside0.mk (below_step (by repeat (first | (with_reducible first | exact HB.out | apply below_alloc | apply pw_below_drewN | apply below_drew1) | exact HB.out)) hb); clear HB; have HB := n0_; clear n0_; (try clear hb); (try clear hb2); (try clear hk); (try clear hi)) | ((with_reducible refine gate_callee (f := 16) rfl ?_); refine goesL_ (some 12) rfl rfl Try.func16 (by kernel_rfl) rfl #[.slice A0 l0.length c0] rfl (by (try simp only [List.map_toArray, List.map_cons, List.map_nil]); first | done | rfl | (simp only [List.length_drop, List.length_take]; rfl)) ?_; (with_reducible refine (cofferlaw12_lend.callsS _ _ l0 t161 _ ?side1 ?side2 A4.out).mono ?_); (case side1 => repeat (first | exact (Kd.C_below HR0.out HB.out) | (with_reducible refine Kd.C_alloc ?_ _) | (with_reducible refine Kd.C_drewN ?_ _) | (with_reducible refine Kd.C_drew ?_))); (case side2 => exact HC0.out); rintro e w10 ⟨v162, rfl, ho0, hb, hsp⟩; refine ⟨_, rfl, ?_⟩; obtain ⟨As_, cs_, es_, hs_⟩ := hsp; have ES_ := Aside0.mk es_; have HS163 := Aside0.mk hs_; clear es_ hs_; have n0_ := Aside0.mk (Kd.R_lower ho0 (below_size (by repeat (first | (with_reducible first | exact HB.out | apply below_alloc | apply pw_below_drewN | apply below_drew1) | exact HB.out)))); have n1_ := Aside0.mk (below_step (by repeat (first | (with_reducible first | exact HB.out | apply below_alloc | apply pw_below_drewN | apply below_drew1) | exact HB.out)) hb); clear HB; have HO163 := n0_; have HB := n1_; clear n0_ n1_; (try clear hb); (try clear hb2); (try clear hk); (try clear hi); (try clear ho0)) | ((with_reducible refine gate_callee (f := 17) rfl ?_); refine goesL_ (some 14) rfl rfl Try.func17 (by kernel_rfl) rfl #[.slice A0 l0.length c0] rfl (by (try simp only [List.map_toArray, List.map_cons, List.map_nil]); first | done | rfl | (simp only [List.length_drop, List.length_take]; rfl)) ?_; (with_reducible refine (cofferref12_Meta.calls k _ _ l0 t164 _ ?side1 ?side2 A5.out).mono ?_); (case side1 => repeat (first | exact (Kd.C_below HR0.out HB.out) | (with_reducible refine Kd.C_alloc ?_ _) | (with_reducible refine Kd.C_drewN ?_ _) | (with_reducible refine Kd.C_drew ?_))); (case side2 => exact HC0.out); rintro e w11 ⟨rfl, hb⟩; refine ⟨_, rfl, ?_⟩; have n0_ := Aside0.mk (Kd.R_below (by (with_reducible repeat (first | apply Kd.R_alloc | apply Kd.R_drewN | apply Kd.R_drew)); exact HO163.out) hb); have s0_ := Aside0.mk (Kd.R_below (by (with_reducible repeat (first | apply Kd.R_alloc | apply Kd.R_drewN | apply Kd.R_drew)); exact HS163.out) hb); have n1_ := Aside0.mk (below_step (by repeat (first | (with_reducible first | exact HB.out | apply below_alloc | apply pw_below_drewN | apply below_drew1) | exact HB.out)) hb); clear HO163; clear HS163; clear HB; have HO163 := n0_; have HS163 := s0_; clear s0_; have HB := n1_; clear n0_ n1_; (try clear hb); (try clear hb2); (try clear hk); (try clear hi); obtain ⟨Ao12, co12, eo12⟩ := Kd.R_slice HO163.out; subst eo12; have es_ := ES_.out; injection es_ with e1_ e2_ e3_; subst e1_; subst e3_; clear ES_ e2_) | ((with_reducible refine gate_callee (f := 18) rfl ?_); refine goesL_ (some 16) rfl rfl Try.func18 (by kernel_rfl) rfl #[.slice Ao12 t161.length co12] rfl (by (try simp only [List.map_toArray, List.map_cons, List.map_nil]); first | done | rfl | (simp only [List.length_drop, List.length_take]; rfl)) ?_; (with_reducible refine (names_Meta.calls k _ _ t161 t165 _ ?side1 ?side2 A6.out).mono ?_); (case side1 => repeat (first | exact (Kd.R_reads' HO163.out).2.2 | (with_reducible refine Kd.C_alloc ?_ _) | (with_reducible refine Kd.C_drewN ?_ _) | (with_reducible refine Kd.C_drew ?_))); (case side2 => exact (Kd.R_reads' HO163.out).2.1); rintro e w13 ⟨rfl, hb⟩; refine ⟨_, rfl, ?_⟩; have n0_ := Aside0.mk (Kd.R_below (by (with_reducible repeat (first | apply Kd.R_alloc | apply Kd.R_drewN | apply Kd.R_drew)); exact HO163.out) hb); have s0_ := Aside0.mk (Kd.R_below (by (with_reducible repeat (first | apply Kd.R_alloc | apply Kd.R_drewN | apply Kd.R_drew)); exact HS163.out) hb); have n1_ := Aside0.mk (below_step (by repeat (first | (with_reducible first | exact HB.out | apply below_alloc | apply pw_below_drewN | apply below_drew1) | exact HB.out)) hb); clear HO163; clear HS163; clear HB; have HO163 := n0_; have HS163 := s0_; clear s0_; have HB := n1_; clear n0_ n1_; (try clear hb); (try clear hb2); (try clear hk); (try clear hi)) | ((with_reducible refine gate_callee (f := 18) rfl ?_); refine goesL_ (some 18) rfl rfl Try.func18 (by kernel_rfl) rfl #[.slice Ao12 t161.length co12] rfl (by (try simp only [List.map_toArray, List.map_cons, List.map_nil]); first | done | rfl | (simp only [List.length_drop, List.length_take]; rfl)) ?_; (with_reducible refine (names_Meta.calls k _ _ t161 t166 _ ?side1 ?side2 A7.out).mono ?_); (case side1 => repeat (first | exact (Kd.R_reads' HO163.out).2.2 | (with_reducible refine Kd.C_alloc ?_ _) | (with_reducible refine Kd.C_drewN ?_ _) | (with_reducible refine Kd.C_drew ?_))); (case side2 => exact (Kd.R_reads' HO163.out).2.1); rintro e w14 ⟨rfl, hb⟩; refine ⟨_, rfl, ?_⟩; have n0_ := Aside0.mk (Kd.R_below (by (with_reducible repeat (first | apply Kd.R_alloc | apply Kd.R_drewN | apply Kd.R_drew)); exact HO163.out) hb); have s0_ := Aside0.mk (Kd.R_below (by (with_reducible repeat (first | apply Kd.R_alloc | apply Kd.R_drewN | apply Kd.R_drew)); exact HS163.out) hb); have n1_ := Aside0.mk (below_step (by repeat (first | (with_reducible first | exact HB.out | apply below_alloc | apply pw_below_drewN | apply below_drew1) | exact HB.out)) hb); clear HO163; clear HS163; clear HB; have HO163 := n0_; have HS163 := s0_; clear s0_; have HB := n1_; clear n0_ n1_; (try clear hb); (try clear hb2); (try clear hk); (try clear hi)))
    (try simp only [Act.put, List.setIfInBounds_toArray, List.set_cons_zero, List.set_cons_succ])
    go_cut [32] (fun v32 wc => ∃ (kq : Nat) (x32_7 : Bool), v32 = .bool x32_7 ∧ Aside0 (cofferlaw12_NamesMetas.j0 kq t161 x32_7 = some r) ∧ Aside0 (kq ≤ k) ∧ Aside0 (Kd.R k31 31 wc w.heap.size (fun _ => True) (.slice Ao12 t161.length co12) t161) ∧ Aside0 (Below w.heap.size w wc))
    case first =>
      have H := HC8.out
      clear HC8
      by_cases c15 : t165 = t164
      · rw [if_pos c15] at H
        have c15b0 : (t165 == t164) = true := beq_iff_eq.mpr c15
        have c15b1 : (t165 != t164) = false := bne_eq_false_iff_eq.mpr c15
        clear c15
        (first | rw [c15b0] | (simp only [i64_w, i32_w]; rw [c15b0]) | rw [c15b1] | skip)
        by_cases c16 : t166 = t164
        · rw [if_pos c16] at H
          have c16b0 : (t166 == t164) = true := beq_iff_eq.mpr c16
          have c16b1 : (t166 != t164) = false := bne_eq_false_iff_eq.mpr c16
          clear c16
          replace H := Option.bind_eq_some_iff.mp H
          obtain ⟨t167, A170, H⟩ := H
          replace H : (cofferlaw12_NamesMetas.j0 k t161 (!t167)) = some r := H
          have A17 := Aside0.mk A170
          clear A170
          have H' := Aside0.mk H
          clear H
          go_wp2_with (first | (go_at_call 19; (with_reducible refine (cofferlaw12_keptS.calls k _ _ t161 _ _ l0 t167 _ ?side1 ?side2 ?sideF ?sideG ?sideH ?side3 ?side4 A17.out).mono ?_); (case sideF => have q_ := (by repeat (first | exact (Kd.R_reads' HS163.out).2.2 | (with_reducible refine Kd.C_alloc ?_ _) | (with_reducible refine Kd.C_drewN ?_ _) | (with_reducible refine Kd.C_drew ?_)) : Kd.C _ _ _ (_ ++ [MARK]).length (_ ++ [MARK])); rw [List.length_append] at q_; exact q_); (case sideG => have q_ := (Kd.R_reads' HS163.out).2.1; rw [List.length_append] at q_; exact q_); (case sideH => exact (cofferlaw12_lend_len A4.out).1); (case side1 => repeat (first | exact (Kd.R_reads' HO163.out).2.2 | (with_reducible refine Kd.C_alloc ?_ _) | (with_reducible refine Kd.C_drewN ?_ _) | (with_reducible refine Kd.C_drew ?_))); (case side2 => exact (Kd.R_reads' HO163.out).2.1); (case side3 => repeat (first | exact (Kd.C_below HR0.out HB.out) | (with_reducible refine Kd.C_alloc ?_ _) | (with_reducible refine Kd.C_drewN ?_ _) | (with_reducible refine Kd.C_drew ?_))); (case side4 => exact HC0.out); rintro e w' ⟨rfl, ⟨nd, rfl⟩⟩))
          go_meet
          case rel => exact ⟨_, (!t167), (by first | rfl | (simp; done) | (simp [Go.Proofs.Ytgijgemgghphbaa.Z.bne_nil, Go.Proofs.Ytgijgemgghphbaa.Z.beq_nil]; done) | (simp [*]; done)), H', ⟨by first | omega | exact Nat.le_refl _⟩, ⟨by (with_reducible repeat (first | apply Kd.R_alloc | apply Kd.R_drewN | apply Kd.R_drew)); exact HO163.out⟩, ⟨by repeat (first | (with_reducible first | exact HB.out | apply below_alloc | apply pw_below_drewN | apply below_drew1) | exact HB.out)⟩⟩
        · rw [if_neg c16] at H
          have c16b0 : (t166 == t164) = false := beq_eq_false_iff_ne.mpr c16
          have c16b1 : (t166 != t164) = true := bne_iff_ne.mpr c16
          have H' := Aside0.mk H
          clear H
          go_wp2
          go_meet
          case rel => exact ⟨_, (true), (by first | rfl | (simp; done) | (simp [Go.Proofs.Ytgijgemgghphbaa.Z.bne_nil, Go.Proofs.Ytgijgemgghphbaa.Z.beq_nil]; done) | (simp [*]; done)), H', ⟨by first | omega | exact Nat.le_refl _⟩, ⟨by (with_reducible repeat (first | apply Kd.R_alloc | apply Kd.R_drewN | apply Kd.R_drew)); exact HO163.out⟩, ⟨by repeat (first | (with_reducible first | exact HB.out | apply below_alloc | apply pw_below_drewN | apply below_drew1) | exact HB.out)⟩⟩
      · rw [if_neg c15] at H
        have c15b0 : (t165 == t164) = false := beq_eq_false_iff_ne.mpr c15
        have c15b1 : (t165 != t164) = true := bne_iff_ne.mpr c15
        (first | rw [c15b0] | (simp only [i64_w, i32_w]; rw [c15b0]) | rw [c15b1] | skip)
        have H' := Aside0.mk H
        clear H
        go_wp2
        go_meet
        case rel => exact ⟨_, (true), (by first | rfl | (simp; done) | (simp [Go.Proofs.Ytgijgemgghphbaa.Z.bne_nil, Go.Proofs.Ytgijgemgghphbaa.Z.beq_nil]; done) | (simp [*]; done)), H', ⟨by first | omega | exact Nat.le_refl _⟩, ⟨by (with_reducible repeat (first | apply Kd.R_alloc | apply Kd.R_drewN | apply Kd.R_drew)); exact HO163.out⟩, ⟨by repeat (first | (with_reducible first | exact HB.out | apply below_alloc | apply pw_below_drewN | apply below_drew1) | exact HB.out)⟩⟩
    case rest =>
      clear HC8
      try clear c1
      try clear p2
      try clear c3
      try clear c4
      try clear c12
      try clear c15
      try clear c15b0
      try clear c15b1
      try clear c16
      try clear c16b0
      try clear c16b1
      try clear c17
      obtain ⟨kq, x32_7, rfl, HA, HJ7, HO_3, HB⟩ := hcut
      cases kq with
      | zero => exact absurd HA.out (by simp [cofferlaw12_NamesMetas.j0])
      | succ kj7 =>
        have H := HA.out
        clear HA
        simp only [cofferlaw12_NamesMetas.j0] at H
        by_cases c18 : x32_7 = true
        · subst c18
          have H1 : (none) = some r := by rw [if_pos rfl] at H; exact H
          clear H
          have H := H1
          clear H1
          exact absurd H (by simp)
        · replace c18 := Bool.eq_false_iff.mpr c18
          subst c18
          have H1 : (cofferlaw12_NamesMetas.l0 kj7 t161 0) = some r := by rw [if_neg (show ¬ (false = true) by decide)] at H; exact H
          clear H
          have H := H1
          clear H1
          have H' := Aside0.mk H
          clear H
          go_wp2
          go_loopg [7] kj7 (fun kq v7 w' => ∃ (x3_2 : List (S31)) (x7_2 : Int), v7 = .int .i64 x7_2 ∧ Aside0 (cofferlaw12_NamesMetas.l0 kq x3_2 x7_2 = some r) ∧ Aside0 (kq ≤ kj7) ∧ Aside0 (Kd.R k31 31 w' w.heap.size (fun _ => True) (.slice Ao12 t161.length co12) x3_2) ∧ Aside0 (Below w.heap.size w w'))
          case atStart => exact ⟨(t161), (0), (by first | rfl | (simp; done) | (simp [Go.Proofs.Ytgijgemgghphbaa.Z.bne_nil, Go.Proofs.Ytgijgemgghphbaa.Z.beq_nil]; done) | (simp [*]; done)), H', ⟨Nat.le_refl _⟩, ⟨by (with_reducible repeat (first | apply Kd.R_alloc | apply Kd.R_drewN | apply Kd.R_drew)); exact HO_3.out⟩, ⟨by repeat (first | (with_reducible first | exact HB.out | apply below_alloc | apply pw_below_drewN | apply below_drew1) | exact HB.out)⟩⟩
          case round =>
            clear H'
            try clear c1
            try clear p2
            try clear c3
            try clear c4
            try clear c12
            try clear c15
            try clear c15b0
            try clear c15b1
            try clear c16
            try clear c16b0
            try clear c16b1
            try clear c17
            try clear c18
            try clear p2
            obtain ⟨x3_2, x7_2, rfl, HA, HK2, HO_3, HB⟩ := hrel
            have hl3_2 := (Kd.R_reads' HO_3.out).1
            rw [hl3_2] at HO_3
            (try simp only [hl3_2])
            cases gk with
            | zero => exact absurd HA.out (by simp [cofferlaw12_NamesMetas.l0])
            | succ k2 =>
              have H := HA.out
              clear HA
              simp only [cofferlaw12_NamesMetas.l0] at H
              by_cases c19 : x7_2 < (x3_2.length : Int)
              · rw [if_pos c19] at H
                have c19b0 : decide (x7_2 < (x3_2.length : Int)) = true := decide_eq_true c19
                clear c19
                replace H := Option.bind_eq_some_iff.mp H
                obtain ⟨t168, A200, H⟩ := H
                replace H : (if 0 ≤ x7_2 then (if ((rd_T31 x3_2 x7_2).f1).size + 40 ≤ 9223372036854775807 then ((some (x3_2.set (x7_2 : Int).toNat (⟨(rd_T31 x3_2 x7_2).f0, ((rd_T31 x3_2 x7_2).f1) ++ (⟨#[48, 49, 50, 51, 52, 53, 54, 55, 56, 57, 48, 49, 50, 51, 52, 53, 54, 55, 56, 57, 48, 49, 50, 51, 52, 53, 54, 55, 56, 57, 48, 49, 50, 51, 52, 53, 54, 55, 56, 57]⟩ : ByteArray)⟩ : S31) : List (S31))).bind fun y170 => ((some (([] : List (S31)) : List (S31))).bind fun y171 => (if y171.length + y170.length < 4398046511104 then ((names_Meta.f k2 y170).bind fun t177 => ((cofferref12_Meta.f k2 (y171 ++ y170)).bind fun t178 => (if t177 = t178 then (cofferlaw12_NamesMetas.l0 k2 y170 (wrap64 (x7_2 + 1))) else (none)))) else (none)))) else (none)) else (none)) = some r := H
                have A20 := Aside0.mk A200
                clear A200
                by_cases c21 : 0 ≤ x7_2
                · rw [if_pos c21] at H
                  have c21b0 : decide (0 ≤ x7_2) = true := decide_eq_true c21
                  clear c21
                  by_cases c22 : ((rd_T31 x3_2 x7_2).f1).size + 40 ≤ 9223372036854775807
                  · rw [if_pos c22] at H
                    have c22b0 := eq_true c22
                    have c22b1 : decide (((rd_T31 x3_2 x7_2).f1).size + 40 ≤ 9223372036854775807) = true := decide_eq_true c22
                    try have c22b2 : (9223372036854775807 < ((rd_T31 x3_2 x7_2).f1).size + 40) = False := eq_false (Nat.not_lt.2 c22)
                    obtain ⟨y170, hy170⟩ : ∃ y_ : List (S31), y_ = (x3_2.set (x7_2 : Int).toNat (⟨(rd_T31 x3_2 x7_2).f0, ((rd_T31 x3_2 x7_2).f1) ++ (⟨#[48, 49, 50, 51, 52, 53, 54, 55, 56, 57, 48, 49, 50, 51, 52, 53, 54, 55, 56, 57, 48, 49, 50, 51, 52, 53, 54, 55, 56, 57, 48, 49, 50, 51, 52, 53, 54, 55, 56, 57]⟩ : ByteArray)⟩ : S31)) := ⟨_, rfl⟩
                    replace H : ((some (([] : List (S31)) : List (S31))).bind fun y171 => (if y171.length + y170.length < 4398046511104 then ((names_Meta.f k2 y170).bind fun t177 => ((cofferref12_Meta.f k2 (y171 ++ y170)).bind fun t178 => (if t177 = t178 then (cofferlaw12_NamesMetas.l0 k2 y170 (wrap64 (x7_2 + 1))) else (none)))) else (none))) = some r := by first | (rw [hy170]; with_reducible exact H) | (have H2_ := (Option.bind_some _ _).symm.trans H; rw [hy170]; with_reducible exact H2_) | (have H2_ := (Option.bind_some _ _).symm.trans H; with_reducible exact H2_) | with_reducible exact H | (rw [hy170]; exact H) | exact H
                    have Ny170 := Aside0.mk hy170
                    clear hy170
                    obtain ⟨y171, hy171⟩ : ∃ y_ : List (S31), y_ = (([] : List (S31))) := ⟨_, rfl⟩
                    replace H : (if y171.length + y170.length < 4398046511104 then ((names_Meta.f k2 y170).bind fun t177 => ((cofferref12_Meta.f k2 (y171 ++ y170)).bind fun t178 => (if t177 = t178 then (cofferlaw12_NamesMetas.l0 k2 y170 (wrap64 (x7_2 + 1))) else (none)))) else (none)) = some r := by first | (rw [hy171]; with_reducible exact H) | (have H2_ := (Option.bind_some _ _).symm.trans H; rw [hy171]; with_reducible exact H2_) | (have H2_ := (Option.bind_some _ _).symm.trans H; with_reducible exact H2_) | with_reducible exact H | (rw [hy171]; exact H) | exact H
                    have Ny171 := Aside0.mk hy171
                    clear hy171
                    by_cases c24 : y171.length + y170.length < 4398046511104
                    · rw [if_pos c24] at H
                      have LMc24 := Aside0.mk c24
                      clear c24
                      obtain ⟨y174, hy174⟩ : ∃ y_ : List (S31), y_ = (y171 ++ y170) := ⟨_, rfl⟩
                      replace H : ((names_Meta.f k2 y170).bind fun t177 => ((cofferref12_Meta.f k2 y174).bind fun t178 => (if t177 = t178 then (cofferlaw12_NamesMetas.l0 k2 y170 (wrap64 (x7_2 + 1))) else (none)))) = some r := by first | (rw [hy174]; with_reducible exact H) | (have H2_ := (Option.bind_some _ _).symm.trans H; rw [hy174]; with_reducible exact H2_) | (have H2_ := (Option.bind_some _ _).symm.trans H; with_reducible exact H2_) | with_reducible exact H | (rw [hy174]; exact H) | exact H
                      have Ny174 := Aside0.mk hy174
                      clear hy174
                      replace H := Option.bind_eq_some_iff.mp H
                      obtain ⟨t177, A250, H⟩ := H
                      replace H : ((cofferref12_Meta.f k2 y174).bind fun t178 => (if t177 = t178 then (cofferlaw12_NamesMetas.l0 k2 y170 (wrap64 (x7_2 + 1))) else (none))) = some r := H
                      have A25 := Aside0.mk A250
                      clear A250
                      replace H := Option.bind_eq_some_iff.mp H
                      obtain ⟨t178, A260, H⟩ := H
                      replace H : (if t177 = t178 then (cofferlaw12_NamesMetas.l0 k2 y170 (wrap64 (x7_2 + 1))) else (none)) = some r := H
                      have A26 := Aside0.mk A260
                      clear A260
                      by_cases c27 : t177 = t178
                      · rw [if_pos c27] at H
                        have c27b0 : (t177 == t178) = true := beq_iff_eq.mpr c27
                        have c27b1 : (t177 != t178) = false := bne_eq_false_iff_eq.mpr c27
                        clear c27
                        have H' := Aside0.mk H
                        clear H
                        go_wp2_with (first | ((with_reducible refine gate_callee (f := 18) rfl ?_); refine goesL_ (some 40) rfl rfl Try.func18 (by kernel_rfl) rfl #[.slice Ao12 x3_2.length co12] rfl (by (try simp only [List.map_toArray, List.map_cons, List.map_nil]); first | done | rfl | (simp only [List.length_drop, List.length_take]; rfl)) ?_; (with_reducible refine (names_Meta.calls k2 _ _ x3_2 t168 _ ?side1 ?side2 A20.out).mono ?_); (case side1 => repeat (first | exact (Kd.R_reads' HO_3.out).2.2 | (with_reducible refine Kd.C_alloc ?_ _) | (with_reducible refine Kd.C_drewN ?_ _) | (with_reducible refine Kd.C_drew ?_))); (case side2 => exact (Kd.R_reads' HO_3.out).2.1); rintro e w28 ⟨rfl, hb⟩; refine ⟨_, rfl, ?_⟩; have n0_ := Aside0.mk (Kd.R_below (by (with_reducible repeat (first | apply Kd.R_alloc | apply Kd.R_drewN | apply Kd.R_drew)); exact HO_3.out) hb); have n1_ := Aside0.mk (below_step (by repeat (first | (with_reducible first | exact HB.out | apply below_alloc | apply pw_below_drewN | apply below_drew1) | exact HB.out)) hb); clear HO_3; clear HB; have HO_3 := n0_; have HB := n1_; clear n0_ n1_; (try clear hb); (try clear hb2); (try clear hk); (try clear hi); have p169 : 0 ≤ (x7_2 : Int) := of_decide_eq_true (by first | (with_reducible assumption) | assumption); have q169 : x7_2 < (x3_2.length : Int) := of_decide_eq_true (by first | (with_reducible assumption) | assumption); obtain ⟨ad169, e169, hx169_0, hx169_1⟩ := at_T31 (Kd.R_reads' HO_3.out).2.2 x7_2 p169 q169; cases e169; replace p169 := eq_true p169; replace q169 := eq_true q169; have p23 : 0 ≤ (x7_2 : Int) := of_decide_eq_true (by first | (with_reducible assumption) | assumption); have q23 : (x7_2 : Int) < ((x3_2.length : Int) : Int) := of_decide_eq_true (by first | (with_reducible assumption) | assumption); obtain ⟨go23, co23, eo23, gb23, gl23, cl23, HG23⟩ := Kd.R_form HO_3.out (by omega); (first | cases eo23 | (injection eo23 with ea_ en_ ec_; (first | subst ea_ | (injection ea_ with ea_; subst ea_)); subst ec_; clear en_)); have GB23 := Aside0.mk gb23; have GG23 := Aside0.mk HG23; clear gb23 gl23 HG23; (first | simp only [add_plain] at hx169_0 | skip); (first | simp only [add_plain] at hx169_1 | skip); obtain ⟨ce23, hcl23, hM23, hcc23, hfr23⟩ := Kd.R_elem HO_3.out z31 (x7_2 : Int) p23 q23; obtain rfl := k31_openM hM23; have hx23_0 : w28.cell? ⟨go23, (x7_2 : Int).toNat * 2, none⟩ = some (.string ((rd_T31 x3_2 x7_2).f0)) := hcc23 0 _ rfl; have hx23_1 : w28.cell? ⟨go23, (x7_2 : Int).toNat * 2 + 1, none⟩ = some (.string ((rd_T31 x3_2 x7_2).f1)) := hcc23 1 _ rfl; have hf23_0 : w28.frozen? ⟨go23, (x7_2 : Int).toNat * 2, none⟩ = false := hfr23 0; have hf23_1 : w28.frozen? ⟨go23, (x7_2 : Int).toNat * 2 + 1, none⟩ = false := hfr23 1; clear hcl23 hcc23 hfr23 hM23; replace p23 := eq_true p23; replace q23 := eq_true q23; have HX29 := Aside0.mk (show Kd.R k31 31 w28 w.heap.size (fun _ => True) (.slice (some ⟨go23, 0, none⟩) x3_2.length co12) x3_2 from (by (with_reducible repeat (first | apply Kd.R_alloc | apply Kd.R_drewN | apply Kd.R_drew)); exact HO_3.out)); obtain ⟨ce29, hcl29, hM29, hcc29, hfr29⟩ := Kd.R_elem HX29.out z31 (x7_2 : Int) (of_decide_eq_true (by first | (with_reducible assumption) | assumption)) (by have h_ : (x7_2 : Int) < ((x3_2.length : Int) : Int) := of_decide_eq_true (by first | (with_reducible assumption) | assumption); first | exact h_ | (have e_ := (Kd.R_reads' HO_3.out).1; omega) | simpa using h_); obtain rfl := k31_openM hM29; have HP29 := Kd.R_seg HX29.out (x7_2 : Int) (of_decide_eq_true (by first | (with_reducible assumption) | assumption)) (by have h_ : (x7_2 : Int) < ((x3_2.length : Int) : Int) := of_decide_eq_true (by first | (with_reducible assumption) | assumption); first | exact h_ | (have e_ := (Kd.R_reads' HO_3.out).1; omega) | simpa using h_) (seg := [.string (((rd_T31 x3_2 x7_2).f1) ++ (⟨#[48, 49, 50, 51, 52, 53, 54, 55, 56, 57, 48, 49, 50, 51, 52, 53, 54, 55, 56, 57, 48, 49, 50, 51, 52, 53, 54, 55, 56, 57, 48, 49, 50, 51, 52, 53, 54, 55, 56, 57]⟩ : ByteArray))]) (j := 1) hcl29 hcc29 (show 2 ≤ 2 from by decide) (x' := (⟨(rd_T31 x3_2 x7_2).f0, ((rd_T31 x3_2 x7_2).f1) ++ (⟨#[48, 49, 50, 51, 52, 53, 54, 55, 56, 57, 48, 49, 50, 51, 52, 53, 54, 55, 56, 57, 48, 49, 50, 51, 52, 53, 54, 55, 56, 57, 48, 49, 50, 51, 52, 53, 54, 55, 56, 57]⟩ : ByteArray)⟩ : S31)) (k31_mkM _ _ _ (⟨(rd_T31 x3_2 x7_2).f0, ((rd_T31 x3_2 x7_2).f1) ++ (⟨#[48, 49, 50, 51, 52, 53, 54, 55, 56, 57, 48, 49, 50, 51, 52, 53, 54, 55, 56, 57, 48, 49, 50, 51, 52, 53, 54, 55, 56, 57, 48, 49, 50, 51, 52, 53, 54, 55, 56, 57]⟩ : ByteArray)⟩ : S31) ) (fun _ hk => hk); have hx29_1 := hcc29 1 _ rfl; (try simp only [show (k31).sz = 2 from rfl, Nat.mul_one, Nat.add_zero] at hx29_1); have hf29_1 := hfr29 1; (try simp only [show (k31).sz = 2 from rfl, Nat.mul_one, Nat.add_zero] at hf29_1); clear hcl29 hcc29 hfr29 hM29) | ((with_reducible refine gate_store (t := 9) (p := 50) rfl ?_); refine store_event (t := 9) (p := 50) (v := ?vo_w30) (w1 := (w28.setCell ⟨go23, (x7_2 : Int).toNat * 2 + 1, none⟩ (.string (((rd_T31 x3_2 x7_2).f1) ++ (⟨#[48, 49, 50, 51, 52, 53, 54, 55, 56, 57, 48, 49, 50, 51, 52, 53, 54, 55, 56, 57, 48, 49, 50, 51, 52, 53, 54, 55, 56, 57, 48, 49, 50, 51, 52, 53, 54, 55, 56, 57]⟩ : ByteArray))))) ?hg ?ho ?hn ?hr ?_; (case ho => rfl); (case hg => rfl); (case hn => rfl); (case hr => first | (go_simp; done) | (go_simp; rfl)); intro w30 hw; have hg : w28.grownBy w30 (some go23) := (by rw [hw]; exact HP29.2); have hp_ : Kd.R k31 31 w30 w.heap.size (fun _ => True) (.slice (some ⟨go23, 0, none⟩) x3_2.length co12) y170 := (by rw [hw, Ny170.out]; exact HP29.1); clear HP29; have n0_ := Aside0.mk (hp_); have n1_ := Aside0.mk ((by rw [hw]; exact below_set (HB.out) GB23.out : Below w.heap.size w w30)); clear HO_3; clear HB; have HO_3 := n0_; have HB := n1_; clear n0_ n1_; clear hg hw hp_) | ((with_reducible refine gate_dst (N := 51) rfl ?_); refine Kd.R_lit k31 _ 31 ?hg (N := 51) ?hd (xs := ([] : List (S31))) (inner := []) (ok := fun _ => True) (okp := fun _ => True) ?hr ?hp (fun _ hk => hk) trivial (Below.refl _ _) (Nat.le_refl _) (by simp) ?_; (case hd => rfl); (case hg => rfl); (case hr => first | (go_simp; done) | (go_simp; rfl)); (case hp => exact (Reps.none _ _)); intro v172 w31 ho32 hb hg_ hnew_; clear hg_ hnew_; (first | rw [← Ny171.out] at ho32 | (simp only [Int.reduceToNat] at ho32; rw [← Ny171.out] at ho32)); have n0_ := Aside0.mk (Kd.R_elder' (by (with_reducible repeat (first | apply Kd.R_alloc | apply Kd.R_drewN | apply Kd.R_drew)); exact HO_3.out) (Kd.R_base ho32) hb); have n1_ := Aside0.mk (Kd.R_lower (Kd.R_new' ho32 (Kd.R_lt (by (with_reducible repeat (first | apply Kd.R_alloc | apply Kd.R_drewN | apply Kd.R_drew)); exact HO_3.out))) (below_size (by repeat (first | (with_reducible first | exact HB.out | apply below_alloc | apply pw_below_drewN | apply below_drew1) | exact HB.out)))); have n2_ := Aside0.mk (below_step (by repeat (first | (with_reducible first | exact HB.out | apply below_alloc | apply pw_below_drewN | apply below_drew1) | exact HB.out)) hb); clear HO_3; clear HB; have HO_3 := n0_; have HO173 := n1_; have HB := n2_; clear n0_ n1_ n2_; clear hb ho32) | ((with_reducible refine gate_builtin (b := .append) (xs := #[.tmp 51, .tmp 52]) rfl ?_); at_builtin; refine Kd.R_append_rows k31 (w0 := w) w.heap.size rfl (.tmp 51) (.tmp 52) 26 31 (.agg #[(.string ⟨#[]⟩), (.string ⟨#[]⟩)]) 32 rfl Try.underlying26 info31 rfl (by decide) (by omega) v172 y171 y170 _ _ _ (fun k_ => some k_ ≠ (.slice (some ⟨go23, 0, none⟩) x3_2.length co12 : Value).ownBlock) (fun _ => False) rfl rfl ?aO ?aR (fun _ _ h => h) (fun _ h => h.elim) ?aF ?aB ?aS ?aL ?_; (case aR => rw [show x3_2.length = y170.length from (Kd.R_reads' HO_3.out).1]; repeat (first | exact (Kd.R_reads' HO_3.out).2.2 | (with_reducible refine Kd.C_alloc ?_ _) | (with_reducible refine Kd.C_drewN ?_ _) | (with_reducible refine Kd.C_drew ?_))); (case aB => exact (by repeat (first | (with_reducible first | exact HB.out | apply below_alloc | apply pw_below_drewN | apply below_drew1) | exact HB.out))); (case aF => exact (fun k_ hk => Kd.fresh' (Kd.R_lt (by (with_reducible repeat (first | apply Kd.R_alloc | apply Kd.R_drewN | apply Kd.R_drew)); exact HO_3.out)) k_ hk)); (case aO => exact (by (with_reducible repeat (first | apply Kd.R_alloc | apply Kd.R_drewN | apply Kd.R_drew)); exact Kd.R_mono HO173.out (fun _ hk => hk.2))); (case aS => exact (below_size (by repeat (first | (with_reducible first | exact HB.out | apply below_alloc | apply pw_below_drewN | apply below_drew1) | exact HB.out)))); (case aL => have := LMc24.out; have hlx_ := (Kd.R_reads' HO_3.out).1; omega); intro v175 w33 ho hb hg hat; rw [← Ny174.out] at ho; have n0_ := Aside0.mk (Kd.R_after (ok := (fun _ => True)) (by (with_reducible repeat (first | apply Kd.R_alloc | apply Kd.R_drewN | apply Kd.R_drew)); exact HO_3.out) hg hat); have n1_ := Aside0.mk (hb); have n2_ := Aside0.mk (ho); clear HO_3; clear HB; clear HO173; have HO_3 := n0_; have HB := n1_; have HO176 := n2_; clear n0_ n1_ n2_; clear ho hb hg hat) | ((with_reducible refine gate_callee (f := 18) rfl ?_); refine goesL_ (some 55) rfl rfl Try.func18 (by kernel_rfl) rfl #[.slice (some ⟨go23, 0, none⟩) y170.length co12] rfl (by (try simp only [List.map_toArray, List.map_cons, List.map_nil]); first | done | (rw [show y170.length = x3_2.length from (Kd.R_reads' HO_3.out).1.symm] <;> rfl) | rfl | (simp only [List.length_drop, List.length_take]; rfl)) ?_; (with_reducible refine (names_Meta.calls k2 _ _ y170 t177 _ ?side1 ?side2 A25.out).mono ?_); (case side1 => repeat (first | exact (Kd.R_reads' HO_3.out).2.2 | (with_reducible refine Kd.C_alloc ?_ _) | (with_reducible refine Kd.C_drewN ?_ _) | (with_reducible refine Kd.C_drew ?_))); (case side2 => rw [show y170.length = x3_2.length from (Kd.R_reads' HO_3.out).1.symm]; exact (Kd.R_reads' HO_3.out).2.1); rintro e w34 ⟨rfl, hb⟩; refine ⟨_, rfl, ?_⟩; have n0_ := Aside0.mk (Kd.R_below (by (with_reducible repeat (first | apply Kd.R_alloc | apply Kd.R_drewN | apply Kd.R_drew)); exact HO_3.out) hb); have n1_ := Aside0.mk (Kd.R_below (by (with_reducible repeat (first | apply Kd.R_alloc | apply Kd.R_drewN | apply Kd.R_drew)); exact HO176.out) hb); have n2_ := Aside0.mk (below_step (by repeat (first | (with_reducible first | exact HB.out | apply below_alloc | apply pw_below_drewN | apply below_drew1) | exact HB.out)) hb); clear HO_3; clear HO176; clear HB; have HO_3 := n0_; have HO176 := n1_; have HB := n2_; clear n0_ n1_ n2_; (try clear hb); (try clear hb2); (try clear hk); (try clear hi); obtain ⟨Ao35, co35, eo35⟩ := Kd.R_slice HO176.out; subst eo35) | ((with_reducible refine gate_callee (f := 17) rfl ?_); refine goesL_ (some 57) rfl rfl Try.func17 (by kernel_rfl) rfl #[.slice Ao35 y174.length co35] rfl (by (try simp only [List.map_toArray, List.map_cons, List.map_nil]); first | done | rfl | (simp only [List.length_drop, List.length_take]; rfl)) ?_; (with_reducible refine (cofferref12_Meta.calls k2 _ _ y174 t178 _ ?side1 ?side2 A26.out).mono ?_); (case side1 => repeat (first | exact (Kd.R_reads' HO176.out).2.2 | (with_reducible refine Kd.C_alloc ?_ _) | (with_reducible refine Kd.C_drewN ?_ _) | (with_reducible refine Kd.C_drew ?_))); (case side2 => exact (Kd.R_reads' HO176.out).2.1); rintro e w36 ⟨rfl, hb⟩; refine ⟨_, rfl, ?_⟩; have n0_ := Aside0.mk (Kd.R_below (by (with_reducible repeat (first | apply Kd.R_alloc | apply Kd.R_drewN | apply Kd.R_drew)); exact HO_3.out) hb); have n1_ := Aside0.mk (Kd.R_below (by (with_reducible repeat (first | apply Kd.R_alloc | apply Kd.R_drewN | apply Kd.R_drew)); exact HO176.out) hb); have n2_ := Aside0.mk (below_step (by repeat (first | (with_reducible first | exact HB.out | apply below_alloc | apply pw_below_drewN | apply below_drew1) | exact HB.out)) hb); clear HO_3; clear HO176; clear HB; have HO_3 := n0_; have HO176 := n1_; have HB := n2_; clear n0_ n1_ n2_; (try clear hb); (try clear hb2); (try clear hk); (try clear hi)))
                        (try simp only [← hl3_2])
                        go_roundg k2
                        case measure => have := HJ7.out; have := HK2.out; omega
                        case rel => exact ⟨(y170), (wrap64 (x7_2 + 1)), (by first | rfl | (simp; done) | (simp [Go.Proofs.Ytgijgemgghphbaa.Z.bne_nil, Go.Proofs.Ytgijgemgghphbaa.Z.beq_nil]; done) | (simp [*]; done)), H', ⟨by have := HJ7.out; have := HK2.out; omega⟩, ⟨by (try simp only [hl3_2]); (with_reducible repeat (first | apply Kd.R_alloc | apply Kd.R_drewN | apply Kd.R_drew)); exact Kd.R_mono HO_3.out (fun _ hk => trivial)⟩, ⟨by repeat (first | (with_reducible first | exact HB.out | apply below_alloc | apply pw_below_drewN | apply below_drew1) | exact HB.out)⟩⟩
                      · rw [if_neg c27] at H
                        exact absurd H (by simp)
                    · rw [if_neg c24] at H
                      exact absurd H (by simp)
                  · rw [if_neg c22] at H
                    exact absurd H (by simp)
                · rw [if_neg c21] at H
                  exact absurd H (by simp)
              · rw [if_neg c19] at H
                have c19b0 : decide (x7_2 < (x3_2.length : Int)) = false := decide_eq_false c19
                clear c19
                obtain rfl := Option.some.inj H
                go_wp2
                go_ret
                exact ⟨by first | rfl | (simp [errW_none, errW_some] <;> rfl) | (simp [*, errW_none, errW_some] <;> rfl), by repeat (first | (with_reducible first | exact HB.out | apply below_alloc | apply pw_below_drewN | apply below_drew1) | exact HB.out)⟩
  · replace c3 := Bool.eq_false_iff.mpr c3
    subst c3
    have H1 : (none) = some r := by rw [if_neg (show ¬ (false = true) by decide)] at H; exact H
    clear H
    have H := H1
    clear H1
    exact absurd H (by simp)

end Go.Proofs.Ytgijgemgghphbaa.X
