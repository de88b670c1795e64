-- By a program of this session (wip/xprint.py over the kit's print).
import Derived.Test.YtbohpjbcjnapfaaX0
import Derived.Test.YtbohpjbcjnapfaaX20
import Derived.Test.YtbohpjbcjnapfaaX35
import Derived.Test.YtbohpjbcjnapfaaX36
import Derived.Test.YtbohpjbcjnapfaaX56
import Derived.Test.YtbohpjbcjnapfaaX57
namespace Go.Proofs.Ytbohpjbcjnapfaa.X
open Go.RowKit Go.Proofs.YtbohpjbcjnapfaaW.PrintWords Go.Proofs.YtbohpjbcjnapfaaW.PrintLast Go.Proofs.YtbohpjbcjnapfaaW.PrintMore
attribute [local go_sem] max2_int min2_int max_two min_two max_three min_three max_four min_four Go.Proofs.Ytbohpjbcjnapfaa.Z.leq_string Go.Proofs.Ytbohpjbcjnapfaa.Z.gtr_string Go.Proofs.Ytbohpjbcjnapfaa.Z.geq_string   -- for this text's walks alone
set_option linter.unusedVariables false
set_option linter.unusedSimpArgs false

/-! ### cofferlaw05_TupleBack: function 6 -/
mutual
def cofferlaw05_TupleBack.j0 : Nat → Int → ByteArray → List (S52) → ByteArray → Bool → Option (Bool)
  | 0, _, _, _, _, _ => none
  | k + 1, x1, x2, x7, x8, x47 => if x47 = true then (none) else (if x8.toList = ([] : List UInt8) then (cofferlaw05_TupleBack.j4 k x2) else (if (x8.size : Int) = 0 then (none) else (if (Int.tmod x1 (x8.size : Int)) < 0 then (cofferlaw05_TupleBack.j1 k x2 x7 x8 (wrap64 (-(Int.tmod x1 (x8.size : Int))))) else (cofferlaw05_TupleBack.j1 k x2 x7 x8 (Int.tmod x1 (x8.size : Int))))))
def cofferlaw05_TupleBack.j4 : Nat → ByteArray → Option (Bool)
  | 0, _ => none
  | k + 1, x2 => (tuple_Read.f k x2).bind fun bt318 => (if bt318.2 = 0 then ((tuple_Write.f bt318.1).bind fun bt322 => (if bt322.2 = 0 then (some (bt322.1.toList == x2.toList)) else (none))) else (if bt318.2 = 4 then (some ((bt318.1.length : Int) == 0)) else (none)))
def cofferlaw05_TupleBack.j1 : Nat → ByteArray → List (S52) → ByteArray → Int → Option (Bool)
  | 0, _, _, _, _ => none
  | k + 1, x2, x7, x8, x12 => if 0 ≤ x12 then (if x12 ≤ (x8.size : Int) then ((tuple_Read.f k (x8.extract 0 (x12 : Int).toNat)).bind fun bt303 => (if bt303.2 = 0 then (if (bt303.1.length : Int) ≥ (x7.length : Int) then (none) else (if 0 ≤ (bt303.1.length : Int) then (if (bt303.1.length : Int) ≤ (x7.length : Int) then ((cofferlaw05_equal.f k bt303.1 (x7.take ((bt303.1.length : Int) : Int).toNat)).bind fun t311 => (if t311 = true then (cofferlaw05_TupleBack.j2 k x2 x7 x8 x12) else (none))) else (none)) else (none))) else (if bt303.2 = 4 then (if (bt303.1.length : Int) = 0 then (cofferlaw05_TupleBack.j2 k x2 x7 x8 x12) else (none)) else (none)))) else (none)) else (none)
def cofferlaw05_TupleBack.j2 : Nat → ByteArray → List (S52) → ByteArray → Int → Option (Bool)
  | 0, _, _, _, _ => none
  | k + 1, x2, x7, x8, x12 => cofferlaw05_TupleBack.l0 k x2 x7 x8 x12 0
def cofferlaw05_TupleBack.l0 : Nat → ByteArray → List (S52) → ByteArray → Int → Int → Option (Bool)
  | 0, _, _, _, _, _ => none
  | k + 1, x2, x7, x8, x12, x15 => if x15 < (x7.length : Int) then (if 0 ≤ x15 then (if x15 ≤ (x7.length : Int) then ((tuple_Write.f (x7.take (x15 : Int).toNat)).bind fun bt316 => (if bt316.2 = 0 then (if (bt316.1.size : Int) = x12 then (if 0 ≤ x12 then (if x12 ≤ (x8.size : Int) then (if ((x8.extract 0 (x12 : Int).toNat).toList = bt316.1.toList) then (cofferlaw05_TupleBack.l0 k x2 x7 x8 x12 (wrap64 (x15 + 1))) else (none)) else (none)) else (none)) else (cofferlaw05_TupleBack.l0 k x2 x7 x8 x12 (wrap64 (x15 + 1)))) else (none))) else (none)) else (none)) else (cofferlaw05_TupleBack.j4 k x2)
end
def cofferlaw05_TupleBack.f (k : Nat) (l0 : List (S58)) (a1 : Int) (a2 : ByteArray) : Option (Bool) := (cofferlaw05_head.f k).bind fun t292 => (if t292 = true then ((cofferlaw05_parts.f k l0).bind fun t293 => ((tuple_Write.f t293).bind fun bt296 => ((tuple_Read.f k bt296.1).bind fun bt298 => (if bt296.2 = 0 then (if bt298.2 = 0 then ((cofferlaw05_equal.f k bt298.1 t293).bind fun t302 => (cofferlaw05_TupleBack.j0 k a1 a2 t293 bt296.1 (!t302))) else (cofferlaw05_TupleBack.j0 k a1 a2 t293 bt296.1 true)) else (cofferlaw05_TupleBack.j0 k a1 a2 t293 bt296.1 true))))) else (none))
theorem cofferlaw05_TupleBack.mono_l : ∀ k, (∀ y0 y1 y2 y3 y4, LeO (cofferlaw05_TupleBack.j0 k y0 y1 y2 y3 y4) (cofferlaw05_TupleBack.j0 (k + 1) y0 y1 y2 y3 y4)) ∧ (∀ y0, LeO (cofferlaw05_TupleBack.j4 k y0) (cofferlaw05_TupleBack.j4 (k + 1) y0)) ∧ (∀ y0 y1 y2 y3, LeO (cofferlaw05_TupleBack.j1 k y0 y1 y2 y3) (cofferlaw05_TupleBack.j1 (k + 1) y0 y1 y2 y3)) ∧ (∀ y0 y1 y2 y3, LeO (cofferlaw05_TupleBack.j2 k y0 y1 y2 y3) (cofferlaw05_TupleBack.j2 (k + 1) y0 y1 y2 y3)) ∧ (∀ y0 y1 y2 y3 y4, LeO (cofferlaw05_TupleBack.l0 k y0 y1 y2 y3 y4) (cofferlaw05_TupleBack.l0 (k + 1) y0 y1 y2 y3 y4))
  | 0 => ⟨fun _ _ _ _ _ r h => by simp [cofferlaw05_TupleBack.j0] at h, fun _ r h => by simp [cofferlaw05_TupleBack.j4] at h, fun _ _ _ _ r h => by simp [cofferlaw05_TupleBack.j1] at h, fun _ _ _ _ r h => by simp [cofferlaw05_TupleBack.j2] at h, fun _ _ _ _ _ r h => by simp [cofferlaw05_TupleBack.l0] at h⟩
  | k + 1 => by
    obtain ⟨ih0, ih1, ih2, ih3, ih4⟩ := cofferlaw05_TupleBack.mono_l k
    refine ⟨?_, ?_, ?_, ?_, ?_⟩
    · intro y0 y1 y2 y3 y4
      unfold cofferlaw05_TupleBack.j0
      repeat' first
      | (with_reducible exact ih0 _ _ _ _ _)
      | (with_reducible exact ih1 _)
      | (with_reducible exact ih2 _ _ _ _)
      | (with_reducible exact ih3 _ _ _ _)
      | (with_reducible exact ih4 _ _ _ _ _)
      | (with_reducible exact cofferlaw05_equal.mono _ _ _)
      | (with_reducible exact cofferlaw05_head.mono _)
      | (with_reducible exact cofferlaw05_parts.mono _ _)
      | (with_reducible exact tuple_Read.mono _ _)
      | (with_reducible exact LeO.refl _)
      | (with_reducible exact LeO.none _)
      | (with_reducible refine LeO.ite ?_ ?_)
      | (with_reducible refine LeO.bind ?_ (fun _ => ?_))
      | exact ih0 _ _ _ _ _
      | exact ih1 _
      | exact ih2 _ _ _ _
      | exact ih3 _ _ _ _
      | exact ih4 _ _ _ _ _
      | exact cofferlaw05_equal.mono _ _ _
      | exact cofferlaw05_head.mono _
      | exact cofferlaw05_parts.mono _ _
      | exact tuple_Read.mono _ _
      | exact LeO.none _
      | refine LeO.ite ?_ ?_
      | refine LeO.bind ?_ (fun _ => ?_)
    · intro y0
      unfold cofferlaw05_TupleBack.j4
      repeat' first
      | (with_reducible exact ih0 _ _ _ _ _)
      | (with_reducible exact ih1 _)
      | (with_reducible exact ih2 _ _ _ _)
      | (with_reducible exact ih3 _ _ _ _)
      | (with_reducible exact ih4 _ _ _ _ _)
      | (with_reducible exact cofferlaw05_equal.mono _ _ _)
      | (with_reducible exact cofferlaw05_head.mono _)
      | (with_reducible exact cofferlaw05_parts.mono _ _)
      | (with_reducible exact tuple_Read.mono _ _)
      | (with_reducible exact LeO.refl _)
      | (with_reducible exact LeO.none _)
      | (with_reducible refine LeO.ite ?_ ?_)
      | (with_reducible refine LeO.bind ?_ (fun _ => ?_))
      | exact ih0 _ _ _ _ _
      | exact ih1 _
      | exact ih2 _ _ _ _
      | exact ih3 _ _ _ _
      | exact ih4 _ _ _ _ _
      | exact cofferlaw05_equal.mono _ _ _
      | exact cofferlaw05_head.mono _
      | exact cofferlaw05_parts.mono _ _
      | exact tuple_Read.mono _ _
      | exact LeO.none _
      | refine LeO.ite ?_ ?_
      | refine LeO.bind ?_ (fun _ => ?_)
    · intro y0 y1 y2 y3
      unfold cofferlaw05_TupleBack.j1
      repeat' first
      | (with_reducible exact ih0 _ _ _ _ _)
      | (with_reducible exact ih1 _)
      | (with_reducible exact ih2 _ _ _ _)
      | (with_reducible exact ih3 _ _ _ _)
      | (with_reducible exact ih4 _ _ _ _ _)
      | (with_reducible exact cofferlaw05_equal.mono _ _ _)
      | (with_reducible exact cofferlaw05_head.mono _)
      | (with_reducible exact cofferlaw05_parts.mono _ _)
      | (with_reducible exact tuple_Read.mono _ _)
      | (with_reducible exact LeO.refl _)
      | (with_reducible exact LeO.none _)
      | (with_reducible refine LeO.ite ?_ ?_)
      | (with_reducible refine LeO.bind ?_ (fun _ => ?_))
      | exact ih0 _ _ _ _ _
      | exact ih1 _
      | exact ih2 _ _ _ _
      | exact ih3 _ _ _ _
      | exact ih4 _ _ _ _ _
      | exact cofferlaw05_equal.mono _ _ _
      | exact cofferlaw05_head.mono _
      | exact cofferlaw05_parts.mono _ _
      | exact tuple_Read.mono _ _
      | exact LeO.none _
      | refine LeO.ite ?_ ?_
      | refine LeO.bind ?_ (fun _ => ?_)
    · intro y0 y1 y2 y3
      unfold cofferlaw05_TupleBack.j2
      repeat' first
      | (with_reducible exact ih0 _ _ _ _ _)
      | (with_reducible exact ih1 _)
      | (with_reducible exact ih2 _ _ _ _)
      | (with_reducible exact ih3 _ _ _ _)
      | (with_reducible exact ih4 _ _ _ _ _)
      | (with_reducible exact cofferlaw05_equal.mono _ _ _)
      | (with_reducible exact cofferlaw05_head.mono _)
      | (with_reducible exact cofferlaw05_parts.mono _ _)
      | (with_reducible exact tuple_Read.mono _ _)
      | (with_reducible exact LeO.refl _)
      | (with_reducible exact LeO.none _)
      | (with_reducible refine LeO.ite ?_ ?_)
      | (with_reducible refine LeO.bind ?_ (fun _ => ?_))
      | exact ih0 _ _ _ _ _
      | exact ih1 _
      | exact ih2 _ _ _ _
      | exact ih3 _ _ _ _
      | exact ih4 _ _ _ _ _
      | exact cofferlaw05_equal.mono _ _ _
      | exact cofferlaw05_head.mono _
      | exact cofferlaw05_parts.mono _ _
      | exact tuple_Read.mono _ _
      | exact LeO.none _
      | refine LeO.ite ?_ ?_
      | refine LeO.bind ?_ (fun _ => ?_)
    · intro y0 y1 y2 y3 y4
      unfold cofferlaw05_TupleBack.l0
      repeat' first
      | (with_reducible exact ih0 _ _ _ _ _)
      | (with_reducible exact ih1 _)
      | (with_reducible exact ih2 _ _ _ _)
      | (with_reducible exact ih3 _ _ _ _)
      | (with_reducible exact ih4 _ _ _ _ _)
      | (with_reducible exact cofferlaw05_equal.mono _ _ _)
      | (with_reducible exact cofferlaw05_head.mono _)
      | (with_reducible exact cofferlaw05_parts.mono _ _)
      | (with_reducible exact tuple_Read.mono _ _)
      | (with_reducible exact LeO.refl _)
      | (with_reducible exact LeO.none _)
      | (with_reducible refine LeO.ite ?_ ?_)
      | (with_reducible refine LeO.bind ?_ (fun _ => ?_))
      | exact ih0 _ _ _ _ _
      | exact ih1 _
      | exact ih2 _ _ _ _
      | exact ih3 _ _ _ _
      | exact ih4 _ _ _ _ _
      | exact cofferlaw05_equal.mono _ _ _
      | exact cofferlaw05_head.mono _
      | exact cofferlaw05_parts.mono _ _
      | exact tuple_Read.mono _ _
      | exact LeO.none _
      | refine LeO.ite ?_ ?_
      | refine LeO.bind ?_ (fun _ => ?_)
theorem cofferlaw05_TupleBack.mono : ∀ a0 a1 a2 k, LeO (cofferlaw05_TupleBack.f k a0 a1 a2) (cofferlaw05_TupleBack.f (k + 1) a0 a1 a2) := by
  intro a0 a1 a2 k
  obtain ⟨ih0, ih1, ih2, ih3, ih4⟩ := cofferlaw05_TupleBack.mono_l k
  unfold cofferlaw05_TupleBack.f
  repeat' first
      | (with_reducible exact ih0 _ _ _ _ _)
      | (with_reducible exact ih1 _)
      | (with_reducible exact ih2 _ _ _ _)
      | (with_reducible exact ih3 _ _ _ _)
      | (with_reducible exact ih4 _ _ _ _ _)
      | (with_reducible exact cofferlaw05_equal.mono _ _ _)
      | (with_reducible exact cofferlaw05_head.mono _)
      | (with_reducible exact cofferlaw05_parts.mono _ _)
      | (with_reducible exact tuple_Read.mono _ _)
      | (with_reducible exact LeO.refl _)
      | (with_reducible exact LeO.none _)
      | (with_reducible refine LeO.ite ?_ ?_)
      | (with_reducible refine LeO.bind ?_ (fun _ => ?_))
      | exact ih0 _ _ _ _ _
      | exact ih1 _
      | exact ih2 _ _ _ _
      | exact ih3 _ _ _ _
      | exact ih4 _ _ _ _ _
      | exact cofferlaw05_equal.mono _ _ _
      | exact cofferlaw05_head.mono _
      | exact cofferlaw05_parts.mono _ _
      | exact tuple_Read.mono _ _
      | exact LeO.none _
      | refine LeO.ite ?_ ?_
      | refine LeO.bind ?_ (fun _ => ?_)
set_option maxHeartbeats 8000000 in
set_option maxRecDepth 100000 in
theorem cofferlaw05_TupleBack.calls (k : Nat) (A0 : Option Addr) (c0 : Nat) (l0 : List (S58)) (a1 : Int) (a2 : ByteArray) (r : Bool) (w : World) (hr0 : Kd.C k58 w A0 l0.length l0) (hc0 : l0.length ≤ c0) (h : cofferlaw05_TupleBack.f k l0 a1 a2 = some r) :
    Calls Try.prog 6 #[.slice A0 l0.length c0, .int .i64 a1, .string a2] w fun e w' => e = .returned (.bool r) ∧ Below w.heap.size w w' := by
  have HR0 := Aside0.mk hr0
  have HC0 := Aside0.mk hc0
  clear hr0 hc0
  have HB := Aside0.mk (Below.refl w.heap.size w)
  have H : ((cofferlaw05_head.f k).bind fun t292 => (if t292 = true then ((cofferlaw05_parts.f k l0).bind fun t293 => ((tuple_Write.f t293).bind fun bt296 => ((tuple_Read.f k bt296.1).bind fun bt298 => (if bt296.2 = 0 then (if bt298.2 = 0 then ((cofferlaw05_equal.f k bt298.1 t293).bind fun t302 => (cofferlaw05_TupleBack.j0 k a1 a2 t293 bt296.1 (!t302))) else (cofferlaw05_TupleBack.j0 k a1 a2 t293 bt296.1 true)) else (cofferlaw05_TupleBack.j0 k a1 a2 t293 bt296.1 true))))) else (none))) = some r := h
  clear h
  replace H := Option.bind_eq_some_iff.mp H
  obtain ⟨t292, A40, H⟩ := H
  replace H : (if t292 = true then ((cofferlaw05_parts.f k l0).bind fun t293 => ((tuple_Write.f t293).bind fun bt296 => ((tuple_Read.f k bt296.1).bind fun bt298 => (if bt296.2 = 0 then (if bt298.2 = 0 then ((cofferlaw05_equal.f k bt298.1 t293).bind fun t302 => (cofferlaw05_TupleBack.j0 k a1 a2 t293 bt296.1 (!t302))) else (cofferlaw05_TupleBack.j0 k a1 a2 t293 bt296.1 true)) else (cofferlaw05_TupleBack.j0 k a1 a2 t293 bt296.1 true))))) else (none)) = some r := H
  have A4 := Aside0.mk A40
  clear A40
  by_cases c5 : t292 = true
  · subst c5
    have H1 : ((cofferlaw05_parts.f k l0).bind fun t293 => ((tuple_Write.f t293).bind fun bt296 => ((tuple_Read.f k bt296.1).bind fun bt298 => (if bt296.2 = 0 then (if bt298.2 = 0 then ((cofferlaw05_equal.f k bt298.1 t293).bind fun t302 => (cofferlaw05_TupleBack.j0 k a1 a2 t293 bt296.1 (!t302))) else (cofferlaw05_TupleBack.j0 k a1 a2 t293 bt296.1 true)) else (cofferlaw05_TupleBack.j0 k a1 a2 t293 bt296.1 true))))) = some r := by rw [if_pos rfl] at H; exact H
    clear H
    have H := H1
    clear H1
    replace H := Option.bind_eq_some_iff.mp H
    obtain ⟨t293, A60, H⟩ := H
    replace H : ((tuple_Write.f t293).bind fun bt296 => ((tuple_Read.f k bt296.1).bind fun bt298 => (if bt296.2 = 0 then (if bt298.2 = 0 then ((cofferlaw05_equal.f k bt298.1 t293).bind fun t302 => (cofferlaw05_TupleBack.j0 k a1 a2 t293 bt296.1 (!t302))) else (cofferlaw05_TupleBack.j0 k a1 a2 t293 bt296.1 true)) else (cofferlaw05_TupleBack.j0 k a1 a2 t293 bt296.1 true)))) = some r := H
    have A6 := Aside0.mk A60
    clear A60
    replace H := Option.bind_eq_some_iff.mp H
    obtain ⟨⟨t296, t297⟩, A70, H⟩ := H
    replace H : ((tuple_Read.f k t296).bind fun bt298 => (if t297 = 0 then (if bt298.2 = 0 then ((cofferlaw05_equal.f k bt298.1 t293).bind fun t302 => (cofferlaw05_TupleBack.j0 k a1 a2 t293 t296 (!t302))) else (cofferlaw05_TupleBack.j0 k a1 a2 t293 t296 true)) else (cofferlaw05_TupleBack.j0 k a1 a2 t293 t296 true))) = some r := H
    have A7 := Aside0.mk A70
    clear A70
    replace H := Option.bind_eq_some_iff.mp H
    obtain ⟨⟨t298, t299⟩, A80, H⟩ := H
    replace H : (if t297 = 0 then (if t299 = 0 then ((cofferlaw05_equal.f k t298 t293).bind fun t302 => (cofferlaw05_TupleBack.j0 k a1 a2 t293 t296 (!t302))) else (cofferlaw05_TupleBack.j0 k a1 a2 t293 t296 true)) else (cofferlaw05_TupleBack.j0 k a1 a2 t293 t296 true)) = some r := H
    have A8 := Aside0.mk A80
    clear A80
    have HC9 := Aside0.mk H
    clear H
    go_enter Try.func6, Try.ntmps6
    go_upto_region 6 with (first | ((with_reducible refine gate_callee (f := 10) rfl ?_); refine goesL_ (some 22) rfl rfl Try.func10 (by kernel_rfl) rfl #[] rfl (by (try simp only [List.map_toArray, List.map_cons, List.map_nil]); first | done | rfl | (simp only [List.length_drop, List.length_take]; rfl)) ?_; (with_reducible refine (cofferlaw05_head.calls k  true _ A4.out).mono ?_); rintro e w10 ⟨rfl, hb⟩; refine ⟨_, rfl, ?_⟩; have n0_ := Aside0.mk (below_step (by repeat (first | (with_reducible first | exact HB.out | apply below_alloc | apply pw_below_drewN | apply below_drew1) | exact HB.out)) hb); clear HB; have HB := n0_; clear n0_; (try clear hb); (try clear hb2); (try clear hk); (try clear hi)) | ((with_reducible refine gate_callee (f := 22) rfl ?_); refine goesL_ (some 25) rfl rfl Try.func22 (by kernel_rfl) rfl #[.slice A0 l0.length c0] rfl (by (try simp only [List.map_toArray, List.map_cons, List.map_nil]); first | done | rfl | (simp only [List.length_drop, List.length_take]; rfl)) ?_; (with_reducible refine (cofferlaw05_parts.calls k _ _ l0 t293 _ ?side1 ?side2 A6.out).mono ?_); (case side1 => repeat (first | exact (Kd.C_below HR0.out HB.out) | (with_reducible refine Kd.C_alloc ?_ _) | (with_reducible refine Kd.C_drewN ?_ _) | (with_reducible refine Kd.C_drew ?_))); (case side2 => exact HC0.out); rintro e w11 ⟨v294, rfl, ho0, hb⟩; refine ⟨_, rfl, ?_⟩; have n0_ := Aside0.mk (Kd.R_lower ho0 (below_size (by repeat (first | (with_reducible first | exact HB.out | apply below_alloc | apply pw_below_drewN | apply below_drew1) | exact HB.out)))); have n1_ := Aside0.mk (below_step (by repeat (first | (with_reducible first | exact HB.out | apply below_alloc | apply pw_below_drewN | apply below_drew1) | exact HB.out)) hb); clear HB; have HO295 := n0_; have HB := n1_; clear n0_ n1_; (try clear hb); (try clear hb2); (try clear hk); (try clear hi); (try clear ho0); obtain ⟨Ao12, co12, eo12⟩ := Kd.R_slice HO295.out; subst eo12) | ((with_reducible refine gate_callee (f := 15) rfl ?_); refine goesL_ (some 28) rfl rfl Try.func15 (by kernel_rfl) rfl #[.slice Ao12 t293.length co12] rfl (by (try simp only [List.map_toArray, List.map_cons, List.map_nil]); first | done | rfl | (simp only [List.length_drop, List.length_take]; rfl)) ?_; (with_reducible refine (tuple_Write.calls _ _ t293 t296 t297 _ ?side1 ?side2 A7.out).mono ?_); (case side1 => repeat (first | exact (Kd.R_reads' HO295.out).2.2 | (with_reducible refine Kd.C_alloc ?_ _) | (with_reducible refine Kd.C_drewN ?_ _) | (with_reducible refine Kd.C_drew ?_))); (case side2 => exact (Kd.R_reads' HO295.out).2.1); rintro e w13 ⟨rfl, hb⟩; refine ⟨_, rfl, ?_⟩; have n0_ := Aside0.mk (Kd.R_below (by (with_reducible repeat (first | apply Kd.R_alloc | apply Kd.R_drewN | apply Kd.R_drew)); exact HO295.out) hb); have n1_ := Aside0.mk (below_step (by repeat (first | (with_reducible first | exact HB.out | apply below_alloc | apply pw_below_drewN | apply below_drew1) | exact HB.out)) hb); clear HO295; clear HB; have HO295 := n0_; have HB := n1_; clear n0_ n1_; (try clear hb); (try clear hb2); (try clear hk); (try clear hi)) | ((with_reducible refine gate_callee (f := 19) rfl ?_); refine goesL_ (some 33) rfl rfl Try.func19 (by kernel_rfl) rfl #[.string t296] rfl (by (try simp only [List.map_toArray, List.map_cons, List.map_nil]); first | done | rfl | (simp only [List.length_drop, List.length_take]; rfl)) ?_; (with_reducible refine (tuple_Read.calls k t296 t298 t299 _ A8.out).mono ?_); rintro e w14 ⟨v300, rfl, ho0, hb⟩; refine ⟨_, rfl, ?_⟩; have n0_ := Aside0.mk (Kd.R_elder' (by (with_reducible repeat (first | apply Kd.R_alloc | apply Kd.R_drewN | apply Kd.R_drew)); exact HO295.out) (Kd.R_base ho0) hb); have n1_ := Aside0.mk (Kd.R_lower (Kd.R_new' ho0 (Kd.R_lt (by (with_reducible repeat (first | apply Kd.R_alloc | apply Kd.R_drewN | apply Kd.R_drew)); exact HO295.out))) (below_size (by repeat (first | (with_reducible first | exact HB.out | apply below_alloc | apply pw_below_drewN | apply below_drew1) | exact HB.out)))); have n2_ := Aside0.mk (below_step (by repeat (first | (with_reducible first | exact HB.out | apply below_alloc | apply pw_below_drewN | apply below_drew1) | exact HB.out)) hb); clear HO295; clear HB; have HO295 := n0_; have HO301 := n1_; have HB := n2_; clear n0_ n1_ n2_; (try clear hb); (try clear hb2); (try clear hk); (try clear hi); (try clear ho0)))
    (try simp only [Act.put, List.setIfInBounds_toArray, List.set_cons_zero, List.set_cons_succ])
    go_cut [47] (fun v47 wc => ∃ (kq : Nat) (x47_8 : Bool), v47 = .bool x47_8 ∧ Aside0 (cofferlaw05_TupleBack.j0 kq a1 a2 t293 t296 x47_8 = some r) ∧ Aside0 (kq ≤ k) ∧ Aside0 (Kd.R k52 52 wc w.heap.size (fun _ => True) (.slice Ao12 t293.length co12) t293) ∧ Aside0 (Below w.heap.size w wc))
    case first =>
      have H := HC9.out
      clear HC9
      by_cases c15 : t297 = 0
      · rw [if_pos c15] at H
        have c15b0 : (t297 == 0) = true := beq_iff_eq.mpr c15
        have c15b1 : (t297 != 0) = false := bne_eq_false_iff_eq.mpr c15
        clear c15
        (first | rw [c15b0] | (simp only [i64_w, i32_w]; rw [c15b0]) | rw [c15b1] | skip)
        by_cases c16 : t299 = 0
        · rw [if_pos c16] at H
          have c16b0 : (t299 == 0) = true := beq_iff_eq.mpr c16
          have c16b1 : (t299 != 0) = false := bne_eq_false_iff_eq.mpr c16
          clear c16
          replace H := Option.bind_eq_some_iff.mp H
          obtain ⟨t302, A170, H⟩ := H
          replace H : (cofferlaw05_TupleBack.j0 k a1 a2 t293 t296 (!t302)) = some r := H
          have A17 := Aside0.mk A170
          clear A170
          have H' := Aside0.mk H
          clear H
          obtain ⟨Ao18, co18, eo18⟩ := Kd.R_slice HO301.out
          subst eo18
          go_wp2_with (first | (go_at_call 25; (with_reducible refine (cofferlaw05_equal.calls k _ _ t298 _ _ t293 t302 _ ?side1 ?side2 ?side3 ?side4 A17.out).mono ?_); (case side1 => repeat (first | exact (Kd.R_reads' HO301.out).2.2 | (with_reducible refine Kd.C_alloc ?_ _) | (with_reducible refine Kd.C_drewN ?_ _) | (with_reducible refine Kd.C_drew ?_))); (case side2 => exact (Kd.R_reads' HO301.out).2.1); (case side3 => repeat (first | exact (Kd.R_reads' HO295.out).2.2 | (with_reducible refine Kd.C_alloc ?_ _) | (with_reducible refine Kd.C_drewN ?_ _) | (with_reducible refine Kd.C_drew ?_))); (case side4 => exact (Kd.R_reads' HO295.out).2.1); rintro e w' ⟨rfl, ⟨nd, rfl⟩⟩))
          go_meet
          case rel => exact ⟨_, (!t302), (by first | rfl | (simp; done) | (simp [Go.Proofs.Ytbohpjbcjnapfaa.Z.bne_nil, Go.Proofs.Ytbohpjbcjnapfaa.Z.beq_nil]; done) | (simp [*]; done)), H', ⟨by first | omega | exact Nat.le_refl _⟩, ⟨by (with_reducible repeat (first | apply Kd.R_alloc | apply Kd.R_drewN | apply Kd.R_drew)); exact Kd.R_mono HO295.out (fun _ hk => trivial)⟩, ⟨by repeat (first | (with_reducible first | exact HB.out | apply below_alloc | apply pw_below_drewN | apply below_drew1) | exact HB.out)⟩⟩
        · rw [if_neg c16] at H
          have c16b0 : (t299 == 0) = false := beq_eq_false_iff_ne.mpr c16
          have c16b1 : (t299 != 0) = true := bne_iff_ne.mpr c16
          have H' := Aside0.mk H
          clear H
          go_wp2
          go_meet
          case rel => exact ⟨_, (true), (by first | rfl | (simp; done) | (simp [Go.Proofs.Ytbohpjbcjnapfaa.Z.bne_nil, Go.Proofs.Ytbohpjbcjnapfaa.Z.beq_nil]; done) | (simp [*]; done)), H', ⟨by first | omega | exact Nat.le_refl _⟩, ⟨by (with_reducible repeat (first | apply Kd.R_alloc | apply Kd.R_drewN | apply Kd.R_drew)); exact Kd.R_mono HO295.out (fun _ hk => trivial)⟩, ⟨by repeat (first | (with_reducible first | exact HB.out | apply below_alloc | apply pw_below_drewN | apply below_drew1) | exact HB.out)⟩⟩
      · rw [if_neg c15] at H
        have c15b0 : (t297 == 0) = false := beq_eq_false_iff_ne.mpr c15
        have c15b1 : (t297 != 0) = true := bne_iff_ne.mpr c15
        (first | rw [c15b0] | (simp only [i64_w, i32_w]; rw [c15b0]) | rw [c15b1] | skip)
        have H' := Aside0.mk H
        clear H
        go_wp2
        go_meet
        case rel => exact ⟨_, (true), (by first | rfl | (simp; done) | (simp [Go.Proofs.Ytbohpjbcjnapfaa.Z.bne_nil, Go.Proofs.Ytbohpjbcjnapfaa.Z.beq_nil]; done) | (simp [*]; done)), H', ⟨by first | omega | exact Nat.le_refl _⟩, ⟨by (with_reducible repeat (first | apply Kd.R_alloc | apply Kd.R_drewN | apply Kd.R_drew)); exact Kd.R_mono HO295.out (fun _ hk => trivial)⟩, ⟨by repeat (first | (with_reducible first | exact HB.out | apply below_alloc | apply pw_below_drewN | apply below_drew1) | exact HB.out)⟩⟩
    case rest =>
      clear HC9
      try clear c1
      try clear c2
      try clear p2
      try clear c5
      try clear c6
      try clear c10
      try clear c15
      try clear c15b0
      try clear c15b1
      try clear c16
      try clear c16b0
      try clear c16b1
      obtain ⟨kq, x47_8, rfl, HA, HJ8, HO_7, HB⟩ := hcut
      cases kq with
      | zero => exact absurd HA.out (by simp [cofferlaw05_TupleBack.j0])
      | succ kj8 =>
        have H := HA.out
        clear HA
        simp only [cofferlaw05_TupleBack.j0] at H
        by_cases c19 : x47_8 = true
        · subst c19
          have H1 : (none) = some r := by rw [if_pos rfl] at H; exact H
          clear H
          have H := H1
          clear H1
          exact absurd H (by simp)
        · replace c19 := Bool.eq_false_iff.mpr c19
          subst c19
          have H1 : (if t296.toList = ([] : List UInt8) then (cofferlaw05_TupleBack.j4 kj8 a2) else (if (t296.size : Int) = 0 then (none) else (if (Int.tmod a1 (t296.size : Int)) < 0 then (cofferlaw05_TupleBack.j1 kj8 a2 t293 t296 (wrap64 (-(Int.tmod a1 (t296.size : Int))))) else (cofferlaw05_TupleBack.j1 kj8 a2 t293 t296 (Int.tmod a1 (t296.size : Int)))))) = some r := by rw [if_neg (show ¬ (false = true) by decide)] at H; exact H
          clear H
          have H := H1
          clear H1
          have HC20 := Aside0.mk H
          clear H
          go_upto_if 49 with (fail)
          go_cut [] (fun wc => ∃ (kq : Nat), Aside0 (cofferlaw05_TupleBack.j4 kq a2 = some r) ∧ Aside0 (kq ≤ kj8) ∧ Aside0 (Below w.heap.size w wc))
          case first =>
            have H := HC20.out
            clear HC20
            by_cases c21 : t296.toList = ([] : List UInt8)
            · rw [if_pos c21] at H
              have c21b0 : (t296.toList == ([] : List UInt8)) = true := beq_iff_eq.mpr c21
              have c21e : t296.toList.isEmpty = true := List.isEmpty_iff.mpr c21
              have c21b1 : (t296.toList != ([] : List UInt8)) = false := bne_eq_false_iff_eq.mpr c21
              clear c21
              (first | rw [c21e] | rw [c21b0] | (simp only [i64_w, i32_w]; rw [c21b0]) | rw [c21b1] | skip)
              have H' := Aside0.mk H
              clear H
              go_wp2
              go_meet
              case rel => exact ⟨_, H', ⟨by have := HJ8.out; first | omega | exact Nat.le_refl _⟩, ⟨by repeat (first | (with_reducible first | exact HB.out | apply below_alloc | apply pw_below_drewN | apply below_drew1) | exact HB.out)⟩⟩
            · rw [if_neg c21] at H
              have c21b0 : (t296.toList == ([] : List UInt8)) = false := beq_eq_false_iff_ne.mpr c21
              have c21e : t296.toList.isEmpty = false := Bool.eq_false_iff.mpr (fun hE_ => c21 (List.isEmpty_iff.mp hE_))
              have c21b1 : (t296.toList != ([] : List UInt8)) = true := bne_iff_ne.mpr c21
              (first | rw [c21e] | rw [c21b0] | (simp only [i64_w, i32_w]; rw [c21b0]) | rw [c21b1] | skip)
              by_cases c22 : (t296.size : Int) = 0
              · rw [if_pos c22] at H
                exact absurd H (by simp)
              · rw [if_neg c22] at H
                have c22b0 : ((t296.size : Int) == 0) = false := beq_eq_false_iff_ne.mpr c22
                have c22b1 : ((t296.size : Int) != 0) = true := bne_iff_ne.mpr c22
                have HC23 := Aside0.mk H
                clear H
                go_upto_if 55 with (fail)
                go_cut [12] (fun v12 wc => ∃ (kq : Nat) (x12_22 : Int), v12 = .int .i64 x12_22 ∧ Aside0 (cofferlaw05_TupleBack.j1 kq a2 t293 t296 x12_22 = some r) ∧ Aside0 (kq ≤ kj8) ∧ Aside0 (Kd.R k52 52 wc w.heap.size (fun _ => True) (.slice Ao12 t293.length co12) t293) ∧ Aside0 (Below w.heap.size w wc))
                case first =>
                  have H := HC23.out
                  clear HC23
                  by_cases c24 : (Int.tmod a1 (t296.size : Int)) < 0
                  · rw [if_pos c24] at H
                    have c24b0 : decide ((Int.tmod a1 (t296.size : Int)) < 0) = true := decide_eq_true c24
                    clear c24
                    (first | rw [c24b0] | (simp only [i64_w, i32_w]; rw [c24b0]) | rw [c24b1] | skip)
                    have H' := Aside0.mk H
                    clear H
                    go_wp2
                    go_meet
                    case rel => exact ⟨_, (wrap64 (-(Int.tmod a1 (t296.size : Int)))), (by first | rfl | (simp; done) | (simp [Go.Proofs.Ytbohpjbcjnapfaa.Z.bne_nil, Go.Proofs.Ytbohpjbcjnapfaa.Z.beq_nil]; done) | (simp [*]; done)), H', ⟨by have := HJ8.out; first | omega | exact Nat.le_refl _⟩, ⟨by (with_reducible repeat (first | apply Kd.R_alloc | apply Kd.R_drewN | apply Kd.R_drew)); exact HO_7.out⟩, ⟨by repeat (first | (with_reducible first | exact HB.out | apply below_alloc | apply pw_below_drewN | apply below_drew1) | exact HB.out)⟩⟩
                  · rw [if_neg c24] at H
                    have c24b0 : decide ((Int.tmod a1 (t296.size : Int)) < 0) = false := decide_eq_false c24
                    clear c24
                    (first | rw [c24b0] | (simp only [i64_w, i32_w]; rw [c24b0]) | rw [c24b1] | skip)
                    have H' := Aside0.mk H
                    clear H
                    go_wp2
                    go_meet
                    case rel => exact ⟨_, (Int.tmod a1 (t296.size : Int)), (by first | rfl | (simp; done) | (simp [Go.Proofs.Ytbohpjbcjnapfaa.Z.bne_nil, Go.Proofs.Ytbohpjbcjnapfaa.Z.beq_nil]; done) | (simp [*]; done)), H', ⟨by have := HJ8.out; first | omega | exact Nat.le_refl _⟩, ⟨by (with_reducible repeat (first | apply Kd.R_alloc | apply Kd.R_drewN | apply Kd.R_drew)); exact HO_7.out⟩, ⟨by repeat (first | (with_reducible first | exact HB.out | apply below_alloc | apply pw_below_drewN | apply below_drew1) | exact HB.out)⟩⟩
                case rest =>
                  clear HC23
                  try clear c1
                  try clear c2
                  try clear p2
                  try clear c5
                  try clear c6
                  try clear p6
                  try clear c10
                  try clear c15
                  try clear c15b0
                  try clear c15b1
                  try clear c16
                  try clear c16b0
                  try clear c16b1
                  try clear c19
                  try clear c21
                  try clear c21b0
                  try clear c21b1
                  try clear c22
                  try clear c22b0
                  try clear c22b1
                  try clear c24
                  try clear c24b0
                  try clear c24b1
                  try clear p2
                  obtain ⟨kq, x12_22, rfl, HA, HJ22, HO_7, HB⟩ := hcut
                  cases kq with
                  | zero => exact absurd HA.out (by simp [cofferlaw05_TupleBack.j1])
                  | succ kj22 =>
                    have H := HA.out
                    clear HA
                    simp only [cofferlaw05_TupleBack.j1] at H
                    by_cases c25 : 0 ≤ x12_22
                    · rw [if_pos c25] at H
                      have c25b0 := eq_true c25
                      have c25b1 : decide (0 ≤ x12_22) = true := decide_eq_true c25
                      clear c25
                      by_cases c26 : x12_22 ≤ (t296.size : Int)
                      · rw [if_pos c26] at H
                        have c26b0 := eq_true c26
                        have c26b1 : decide (x12_22 ≤ (t296.size : Int)) = true := decide_eq_true c26
                        clear c26
                        replace H := Option.bind_eq_some_iff.mp H
                        obtain ⟨⟨t303, t304⟩, A270, H⟩ := H
                        replace H : (if t304 = 0 then (if (t303.length : Int) ≥ (t293.length : Int) then (none) else (if 0 ≤ (t303.length : Int) then (if (t303.length : Int) ≤ (t293.length : Int) then ((cofferlaw05_equal.f kj22 t303 (t293.take ((t303.length : Int) : Int).toNat)).bind fun t311 => (if t311 = true then (cofferlaw05_TupleBack.j2 kj22 a2 t293 t296 x12_22) else (none))) else (none)) else (none))) else (if t304 = 4 then (if (t303.length : Int) = 0 then (cofferlaw05_TupleBack.j2 kj22 a2 t293 t296 x12_22) else (none)) else (none))) = some r := H
                        have A27 := Aside0.mk A270
                        clear A270
                        have HC28 := Aside0.mk H
                        clear H
                        go_upto_if 66 with (first | ((with_reducible refine gate_callee (f := 19) rfl ?_); refine goesL_ (some 62) rfl rfl Try.func19 (by kernel_rfl) rfl #[.string (t296.extract 0 (x12_22 : Int).toNat)] rfl (by (try simp only [List.map_toArray, List.map_cons, List.map_nil]); first | done | rfl | (simp only [List.length_drop, List.length_take]; rfl)) ?_; (with_reducible refine (tuple_Read.calls kj22 (t296.extract 0 (x12_22 : Int).toNat) t303 t304 _ A27.out).mono ?_); rintro e w29 ⟨v305, rfl, ho0, hb⟩; refine ⟨_, rfl, ?_⟩; have n0_ := Aside0.mk (Kd.R_elder' (by (with_reducible repeat (first | apply Kd.R_alloc | apply Kd.R_drewN | apply Kd.R_drew)); exact HO_7.out) (Kd.R_base ho0) hb); have n1_ := Aside0.mk (Kd.R_lower (Kd.R_new' ho0 (Kd.R_lt (by (with_reducible repeat (first | apply Kd.R_alloc | apply Kd.R_drewN | apply Kd.R_drew)); exact HO_7.out))) (below_size (by repeat (first | (with_reducible first | exact HB.out | apply below_alloc | apply pw_below_drewN | apply below_drew1) | exact HB.out)))); have n2_ := Aside0.mk (below_step (by repeat (first | (with_reducible first | exact HB.out | apply below_alloc | apply pw_below_drewN | apply below_drew1) | exact HB.out)) hb); clear HO_7; clear HB; have HO_7 := n0_; have HO306 := n1_; have HB := n2_; clear n0_ n1_ n2_; (try clear hb); (try clear hb2); (try clear hk); (try clear hi); (try clear ho0)))
                        (try simp only [Act.put, List.setIfInBounds_toArray, List.set_cons_zero, List.set_cons_succ])
                        go_cut [] (fun wc => ∃ (kq : Nat), Aside0 (cofferlaw05_TupleBack.j2 kq a2 t293 t296 x12_22 = some r) ∧ Aside0 (kq ≤ kj22) ∧ Aside0 (Kd.R k52 52 wc w.heap.size (fun _ => True) (.slice Ao12 t293.length co12) t293) ∧ Aside0 (Below w.heap.size w wc))
                        case first =>
                          have H := HC28.out
                          clear HC28
                          by_cases c30 : t304 = 0
                          · rw [if_pos c30] at H
                            have c30b0 : (t304 == 0) = true := beq_iff_eq.mpr c30
                            have c30b1 : (t304 != 0) = false := bne_eq_false_iff_eq.mpr c30
                            clear c30
                            (first | rw [c30b0] | (simp only [i64_w, i32_w]; rw [c30b0]) | rw [c30b1] | skip)
                            by_cases c31 : (t303.length : Int) ≥ (t293.length : Int)
                            · rw [if_pos c31] at H
                              exact absurd H (by simp)
                            · rw [if_neg c31] at H
                              have c31b0 : decide ((t293.length : Int) ≤ (t303.length : Int)) = false := decide_eq_false c31
                              have c31b1 : decide (t293.length ≤ t303.length) = false := decide_eq_false (fun h => c31 (Int.ofNat_le.mpr h))
                              clear c31
                              by_cases c32 : 0 ≤ (t303.length : Int)
                              · rw [if_pos c32] at H
                                have c32b0 := eq_true c32
                                have c32b1 : decide (0 ≤ (t303.length : Int)) = true := decide_eq_true c32
                                clear c32
                                by_cases c33 : (t303.length : Int) ≤ (t293.length : Int)
                                · rw [if_pos c33] at H
                                  have c33b0 := eq_true c33
                                  have c33b1 : decide ((t303.length : Int) ≤ (t293.length : Int)) = true := decide_eq_true c33
                                  clear c33
                                  obtain ⟨y307, hy307⟩ : ∃ y_ : List (S52), y_ = (t293.take ((t303.length : Int) : Int).toNat) := ⟨_, rfl⟩
                                  replace H : ((cofferlaw05_equal.f kj22 t303 y307).bind fun t311 => (if t311 = true then (cofferlaw05_TupleBack.j2 kj22 a2 t293 t296 x12_22) else (none))) = some r := by first | (rw [hy307]; with_reducible exact H) | (have H2_ := (Option.bind_some _ _).symm.trans H; rw [hy307]; with_reducible exact H2_) | (have H2_ := (Option.bind_some _ _).symm.trans H; with_reducible exact H2_) | with_reducible exact H | (rw [hy307]; exact H) | exact H
                                  have Ny307 := Aside0.mk hy307
                                  clear hy307
                                  replace H := Option.bind_eq_some_iff.mp H
                                  obtain ⟨t311, A340, H⟩ := H
                                  replace H : (if t311 = true then (cofferlaw05_TupleBack.j2 kj22 a2 t293 t296 x12_22) else (none)) = some r := H
                                  have A34 := Aside0.mk A340
                                  clear A340
                                  by_cases c35 : t311 = true
                                  · subst c35
                                    have H1 : (cofferlaw05_TupleBack.j2 kj22 a2 t293 t296 x12_22) = some r := by rw [if_pos rfl] at H; exact H
                                    clear H
                                    have H := H1
                                    clear H1
                                    have H' := Aside0.mk H
                                    clear H
                                    obtain ⟨Ao36, co36, eo36⟩ := Kd.R_slice HO306.out
                                    subst eo36
                                    have q37 : ((t303.length : Int) : Int) ≤ ((t293.length : Int) : Int) := of_decide_eq_true (by first | (with_reducible assumption) | assumption)
                                    obtain ⟨i037, hi037, _, hsz37, _⟩ := info_parts info52
                                    have hroom37 : t293.length ≤ co12 := (Kd.R_reads' HO_7.out).2.1
                                    have hC37 : Kd.C k52 _ Ao12 t293.length t293 := (Kd.R_reads' HO_7.out).2.2
                                    have hcut37 := cut_to (P := Try.prog) 30 52 .i64 Try.underlying30 hi037 Ao12 t293.length co12 (t303.length : Int) (of_decide_eq_true (by first | (with_reducible assumption) | assumption)) q37 hroom37
                                    have hr37 := Kd.C_take (m := ((t303.length : Int) : Int).toNat) hC37 (by omega)
                                    have hy37 : y307.length = ((t303.length : Int) : Int).toNat := (by rw [Ny307.out, List.length_take]; omega)
                                    rw [← Ny307.out] at hr37
                                    rw [← hy37] at hcut37
                                    have HR310 := Aside0.mk hr37
                                    have HC310 := Aside0.mk (show y307.length ≤ co12 from by omega)
                                    clear hr37 hC37 hroom37 hi037 hsz37
                                    have KY37 := Aside0.mk hy37
                                    clear hy37
                                    have KL37 := Aside0.mk (show ((t303.length : Int) : Int).toNat ≤ t293.length from by omega)
                                    replace q37 := eq_true q37
                                    go_wp2_with (first | (go_at_call 25; (with_reducible refine (cofferlaw05_equal.calls kj22 _ _ t303 _ _ y307 true _ ?side1 ?side2 ?side3 ?side4 A34.out).mono ?_); (case side1 => repeat (first | exact (Kd.R_reads' HO306.out).2.2 | (with_reducible refine Kd.C_alloc ?_ _) | (with_reducible refine Kd.C_drewN ?_ _) | (with_reducible refine Kd.C_drew ?_))); (case side2 => exact (Kd.R_reads' HO306.out).2.1); (case side3 => repeat (first | exact (by repeat (first | (with_reducible exact HR310.out) | (with_reducible refine Kd.C_alloc ?_ _) | (with_reducible refine Kd.C_drewN ?_ _) | (with_reducible refine Kd.C_drew ?_) | exact HR310.out)) | (with_reducible refine Kd.C_alloc ?_ _) | (with_reducible refine Kd.C_drewN ?_ _) | (with_reducible refine Kd.C_drew ?_))); (case side4 => exact HC310.out); rintro e w' ⟨rfl, ⟨nd, rfl⟩⟩))
                                    go_meet
                                    case rel => exact ⟨_, H', ⟨by have := HJ8.out; have := HJ22.out; first | omega | exact Nat.le_refl _⟩, ⟨by (with_reducible repeat (first | apply Kd.R_alloc | apply Kd.R_drewN | apply Kd.R_drew)); exact Kd.R_mono HO_7.out (fun _ hk => trivial)⟩, ⟨by repeat (first | (with_reducible first | exact HB.out | apply below_alloc | apply pw_below_drewN | apply below_drew1) | exact HB.out)⟩⟩
                                  · replace c35 := Bool.eq_false_iff.mpr c35
                                    subst c35
                                    have H1 : (none) = some r := by rw [if_neg (show ¬ (false = true) by decide)] at H; exact H
                                    clear H
                                    have H := H1
                                    clear H1
                                    exact absurd H (by simp)
                                · rw [if_neg c33] at H
                                  exact absurd H (by simp)
                              · rw [if_neg c32] at H
                                exact absurd H (by simp)
                          · rw [if_neg c30] at H
                            have c30b0 : (t304 == 0) = false := beq_eq_false_iff_ne.mpr c30
                            have c30b1 : (t304 != 0) = true := bne_iff_ne.mpr c30
                            (first | rw [c30b0] | (simp only [i64_w, i32_w]; rw [c30b0]) | rw [c30b1] | skip)
                            by_cases c38 : t304 = 4
                            · rw [if_pos c38] at H
                              have c38b0 : (t304 == 4) = true := beq_iff_eq.mpr c38
                              have c38b1 : (t304 != 4) = false := bne_eq_false_iff_eq.mpr c38
                              clear c38
                              by_cases c39 : (t303.length : Int) = 0
                              · rw [if_pos c39] at H
                                have c39b0 : ((t303.length : Int) == 0) = true := beq_iff_eq.mpr c39
                                have c39b1 : ((t303.length : Int) != 0) = false := bne_eq_false_iff_eq.mpr c39
                                clear c39
                                have H' := Aside0.mk H
                                clear H
                                obtain ⟨Ao40, co40, eo40⟩ := Kd.R_slice HO306.out
                                subst eo40
                                go_wp2
                                go_meet
                                case rel => exact ⟨_, H', ⟨by have := HJ8.out; have := HJ22.out; first | omega | exact Nat.le_refl _⟩, ⟨by (with_reducible repeat (first | apply Kd.R_alloc | apply Kd.R_drewN | apply Kd.R_drew)); exact Kd.R_mono HO_7.out (fun _ hk => trivial)⟩, ⟨by repeat (first | (with_reducible first | exact HB.out | apply below_alloc | apply pw_below_drewN | apply below_drew1) | exact HB.out)⟩⟩
                              · rw [if_neg c39] at H
                                exact absurd H (by simp)
                            · rw [if_neg c38] at H
                              exact absurd H (by simp)
                        case rest =>
                          clear HC28
                          try clear c1
                          try clear c2
                          try clear p2
                          try clear c3
                          try clear q3
                          try clear c5
                          try clear c6
                          try clear p6
                          try clear c10
                          try clear c15
                          try clear c15b0
                          try clear c15b1
                          try clear c16
                          try clear c16b0
                          try clear c16b1
                          try clear c19
                          try clear c21
                          try clear c21b0
                          try clear c21b1
                          try clear c22
                          try clear c22b0
                          try clear c22b1
                          try clear c24
                          try clear c24b0
                          try clear c24b1
                          try clear c25
                          try clear c25b0
                          try clear c25b1
                          try clear c26
                          try clear c26b0
                          try clear c26b1
                          try clear c30
                          try clear c30b0
                          try clear c30b1
                          try clear c31
                          try clear c31b0
                          try clear c31b1
                          try clear c32
                          try clear c32b0
                          try clear c32b1
                          try clear c33
                          try clear c33b0
                          try clear c33b1
                          try clear c35
                          try clear q37
                          try clear c38
                          try clear c38b0
                          try clear c38b1
                          try clear c39
                          try clear c39b0
                          try clear c39b1
                          try clear p2
                          try clear p6
                          try clear q37
                          obtain ⟨kq, HA, HJ27, HO_7, HB⟩ := hcut
                          cases kq with
                          | zero => exact absurd HA.out (by simp [cofferlaw05_TupleBack.j2])
                          | succ kj27 =>
                            have H := HA.out
                            clear HA
                            simp only [cofferlaw05_TupleBack.j2] at H
                            have H' := Aside0.mk H
                            clear H
                            go_wp2
                            go_loopg [15] kj27 (fun kq v15 w' => ∃ (x15_4 : Int), v15 = .int .i64 x15_4 ∧ Aside0 (cofferlaw05_TupleBack.l0 kq a2 t293 t296 x12_22 x15_4 = some r) ∧ Aside0 (kq ≤ kj27) ∧ Aside0 (Kd.R k52 52 w' w.heap.size (fun _ => True) (.slice Ao12 t293.length co12) t293) ∧ Aside0 (Below w.heap.size w w'))
                            case atStart => exact ⟨(0), (by first | rfl | (simp; done) | (simp [Go.Proofs.Ytbohpjbcjnapfaa.Z.bne_nil, Go.Proofs.Ytbohpjbcjnapfaa.Z.beq_nil]; done) | (simp [*]; done)), H', ⟨Nat.le_refl _⟩, ⟨by (with_reducible repeat (first | apply Kd.R_alloc | apply Kd.R_drewN | apply Kd.R_drew)); exact HO_7.out⟩, ⟨by repeat (first | (with_reducible first | exact HB.out | apply below_alloc | apply pw_below_drewN | apply below_drew1) | exact HB.out)⟩⟩
                            case round =>
                              clear H'
                              try clear c1
                              try clear c2
                              try clear p2
                              try clear c3
                              try clear q3
                              try clear c5
                              try clear c6
                              try clear p6
                              try clear c10
                              try clear c15
                              try clear c15b0
                              try clear c15b1
                              try clear c16
                              try clear c16b0
                              try clear c16b1
                              try clear c19
                              try clear c21
                              try clear c21b0
                              try clear c21b1
                              try clear c22
                              try clear c22b0
                              try clear c22b1
                              try clear c24
                              try clear c24b0
                              try clear c24b1
                              try clear c25
                              try clear c25b0
                              try clear c25b1
                              try clear c26
                              try clear c26b0
                              try clear c26b1
                              try clear c30
                              try clear c30b0
                              try clear c30b1
                              try clear c31
                              try clear c31b0
                              try clear c31b1
                              try clear c32
                              try clear c32b0
                              try clear c32b1
                              try clear c33
                              try clear c33b0
                              try clear c33b1
                              try clear c35
                              try clear q37
                              try clear c38
                              try clear c38b0
                              try clear c38b1
                              try clear c39
                              try clear c39b0
                              try clear c39b1
                              try clear p2
                              try clear p6
                              try clear q3
                              try clear q37
                              obtain ⟨x15_4, rfl, HA, HK4, HO_7, HB⟩ := hrel
                              cases gk with
                              | zero => exact absurd HA.out (by simp [cofferlaw05_TupleBack.l0])
                              | succ k4 =>
                                have H := HA.out
                                clear HA
                                simp only [cofferlaw05_TupleBack.l0] at H
                                by_cases c41 : x15_4 < (t293.length : Int)
                                · rw [if_pos c41] at H
                                  have c41b0 : decide (x15_4 < (t293.length : Int)) = true := decide_eq_true c41
                                  clear c41
                                  by_cases c42 : 0 ≤ x15_4
                                  · rw [if_pos c42] at H
                                    have c42b0 := eq_true c42
                                    have c42b1 : decide (0 ≤ x15_4) = true := decide_eq_true c42
                                    clear c42
                                    by_cases c43 : x15_4 ≤ (t293.length : Int)
                                    · rw [if_pos c43] at H
                                      have c43b0 := eq_true c43
                                      have c43b1 : decide (x15_4 ≤ (t293.length : Int)) = true := decide_eq_true c43
                                      clear c43
                                      obtain ⟨y312, hy312⟩ : ∃ y_ : List (S52), y_ = (t293.take (x15_4 : Int).toNat) := ⟨_, rfl⟩
                                      replace H : ((tuple_Write.f y312).bind fun bt316 => (if bt316.2 = 0 then (if (bt316.1.size : Int) = x12_22 then (if 0 ≤ x12_22 then (if x12_22 ≤ (t296.size : Int) then (if ((t296.extract 0 (x12_22 : Int).toNat).toList = bt316.1.toList) then (cofferlaw05_TupleBack.l0 k4 a2 t293 t296 x12_22 (wrap64 (x15_4 + 1))) else (none)) else (none)) else (none)) else (cofferlaw05_TupleBack.l0 k4 a2 t293 t296 x12_22 (wrap64 (x15_4 + 1)))) else (none))) = some r := by first | (rw [hy312]; with_reducible exact H) | (have H2_ := (Option.bind_some _ _).symm.trans H; rw [hy312]; with_reducible exact H2_) | (have H2_ := (Option.bind_some _ _).symm.trans H; with_reducible exact H2_) | with_reducible exact H | (rw [hy312]; exact H) | exact H
                                      have Ny312 := Aside0.mk hy312
                                      clear hy312
                                      replace H := Option.bind_eq_some_iff.mp H
                                      obtain ⟨⟨t316, t317⟩, A440, H⟩ := H
                                      replace H : (if t317 = 0 then (if (t316.size : Int) = x12_22 then (if 0 ≤ x12_22 then (if x12_22 ≤ (t296.size : Int) then (if ((t296.extract 0 (x12_22 : Int).toNat).toList = t316.toList) then (cofferlaw05_TupleBack.l0 k4 a2 t293 t296 x12_22 (wrap64 (x15_4 + 1))) else (none)) else (none)) else (none)) else (cofferlaw05_TupleBack.l0 k4 a2 t293 t296 x12_22 (wrap64 (x15_4 + 1)))) else (none)) = some r := H
                                      have A44 := Aside0.mk A440
                                      clear A440
                                      by_cases c45 : t317 = 0
                                      · rw [if_pos c45] at H
                                        have c45b0 : (t317 == 0) = true := beq_iff_eq.mpr c45
                                        have c45b1 : (t317 != 0) = false := bne_eq_false_iff_eq.mpr c45
                                        clear c45
                                        by_cases c46 : (t316.size : Int) = x12_22
                                        · rw [if_pos c46] at H
                                          have c46b0 : ((t316.size : Int) == x12_22) = true := beq_iff_eq.mpr c46
                                          have c46b1 : ((t316.size : Int) != x12_22) = false := bne_eq_false_iff_eq.mpr c46
                                          clear c46
                                          by_cases c47 : 0 ≤ x12_22
                                          · rw [if_pos c47] at H
                                            have c47b0 := eq_true c47
                                            have c47b1 : decide (0 ≤ x12_22) = true := decide_eq_true c47
                                            clear c47
                                            by_cases c48 : x12_22 ≤ (t296.size : Int)
                                            · rw [if_pos c48] at H
                                              have c48b0 := eq_true c48
                                              have c48b1 : decide (x12_22 ≤ (t296.size : Int)) = true := decide_eq_true c48
                                              clear c48
                                              by_cases c49 : ((t296.extract 0 (x12_22 : Int).toNat).toList = t316.toList)
                                              · rw [if_pos c49] at H
                                                have c49b0 : ((t296.extract 0 (x12_22 : Int).toNat).toList == t316.toList) = true := beq_iff_eq.mpr c49
                                                have c49b1 : ((t296.extract 0 (x12_22 : Int).toNat).toList != t316.toList) = false := bne_eq_false_iff_eq.mpr c49
                                                clear c49
                                                have H' := Aside0.mk H
                                                clear H
                                                have q50 : (x15_4 : Int) ≤ ((t293.length : Int) : Int) := of_decide_eq_true (by first | (with_reducible assumption) | assumption)
                                                obtain ⟨i050, hi050, _, hsz50, _⟩ := info_parts info52
                                                have hroom50 : t293.length ≤ co12 := (Kd.R_reads' HO_7.out).2.1
                                                have hC50 : Kd.C k52 _ Ao12 t293.length t293 := (Kd.R_reads' HO_7.out).2.2
                                                have hcut50 := cut_to (P := Try.prog) 30 52 .i64 Try.underlying30 hi050 Ao12 t293.length co12 x15_4 (of_decide_eq_true (by first | (with_reducible assumption) | assumption)) q50 hroom50
                                                have hr50 := Kd.C_take (m := (x15_4 : Int).toNat) hC50 (by omega)
                                                have hy50 : y312.length = (x15_4 : Int).toNat := (by rw [Ny312.out, List.length_take]; omega)
                                                rw [← Ny312.out] at hr50
                                                rw [← hy50] at hcut50
                                                have HR315 := Aside0.mk hr50
                                                have HC315 := Aside0.mk (show y312.length ≤ co12 from by omega)
                                                clear hr50 hC50 hroom50 hi050 hsz50
                                                have KY50 := Aside0.mk hy50
                                                clear hy50
                                                have KL50 := Aside0.mk (show (x15_4 : Int).toNat ≤ t293.length from by omega)
                                                replace q50 := eq_true q50
                                                go_wp2_with (first | ((with_reducible refine gate_callee (f := 15) rfl ?_); refine goesL_ (some 98) rfl rfl Try.func15 (by kernel_rfl) rfl #[.slice Ao12 y312.length co12] rfl (by (try simp only [List.map_toArray, List.map_cons, List.map_nil]); first | done | rfl | (simp only [List.length_drop, List.length_take]; rfl)) ?_; (with_reducible refine (tuple_Write.calls _ _ y312 t316 t317 _ ?side1 ?side2 A44.out).mono ?_); (case side1 => repeat (first | exact (by repeat (first | (with_reducible exact HR315.out) | (with_reducible refine Kd.C_alloc ?_ _) | (with_reducible refine Kd.C_drewN ?_ _) | (with_reducible refine Kd.C_drew ?_) | exact HR315.out)) | (with_reducible refine Kd.C_alloc ?_ _) | (with_reducible refine Kd.C_drewN ?_ _) | (with_reducible refine Kd.C_drew ?_))); (case side2 => exact HC315.out); rintro e w51 ⟨rfl, hb⟩; refine ⟨_, rfl, ?_⟩; have n0_ := Aside0.mk (Kd.R_below (by (with_reducible repeat (first | apply Kd.R_alloc | apply Kd.R_drewN | apply Kd.R_drew)); exact HO_7.out) hb); have n1_ := Aside0.mk (Kd.C_below (by repeat (first | (with_reducible exact HR315.out) | (with_reducible refine Kd.C_alloc ?_ _) | (with_reducible refine Kd.C_drewN ?_ _) | (with_reducible refine Kd.C_drew ?_) | exact HR315.out)) hb); have n2_ := Aside0.mk (below_step (by repeat (first | (with_reducible first | exact HB.out | apply below_alloc | apply pw_below_drewN | apply below_drew1) | exact HB.out)) hb); clear HO_7; clear HR315; clear HB; have HO_7 := n0_; have HR315 := n1_; have HB := n2_; clear n0_ n1_ n2_; (try clear hb); (try clear hb2); (try clear hk); (try clear hi)))
                                                go_roundg k4
                                                case measure => have := HJ8.out; have := HJ22.out; have := HJ27.out; have := HK4.out; omega
                                                case rel => exact ⟨(wrap64 (x15_4 + 1)), (by first | rfl | (simp; done) | (simp [Go.Proofs.Ytbohpjbcjnapfaa.Z.bne_nil, Go.Proofs.Ytbohpjbcjnapfaa.Z.beq_nil]; done) | (simp [*]; done)), H', ⟨by have := HJ8.out; have := HJ22.out; have := HJ27.out; have := HK4.out; omega⟩, ⟨by (with_reducible repeat (first | apply Kd.R_alloc | apply Kd.R_drewN | apply Kd.R_drew)); exact HO_7.out⟩, ⟨by repeat (first | (with_reducible first | exact HB.out | apply below_alloc | apply pw_below_drewN | apply below_drew1) | exact HB.out)⟩⟩
                                              · rw [if_neg c49] at H
                                                exact absurd H (by simp)
                                            · rw [if_neg c48] at H
                                              exact absurd H (by simp)
                                          · rw [if_neg c47] at H
                                            exact absurd H (by simp)
                                        · rw [if_neg c46] at H
                                          have c46b0 : ((t316.size : Int) == x12_22) = false := beq_eq_false_iff_ne.mpr c46
                                          have c46b1 : ((t316.size : Int) != x12_22) = true := bne_iff_ne.mpr c46
                                          have H' := Aside0.mk H
                                          clear H
                                          have q52 : (x15_4 : Int) ≤ ((t293.length : Int) : Int) := of_decide_eq_true (by first | (with_reducible assumption) | assumption)
                                          obtain ⟨i052, hi052, _, hsz52, _⟩ := info_parts info52
                                          have hroom52 : t293.length ≤ co12 := (Kd.R_reads' HO_7.out).2.1
                                          have hC52 : Kd.C k52 _ Ao12 t293.length t293 := (Kd.R_reads' HO_7.out).2.2
                                          have hcut52 := cut_to (P := Try.prog) 30 52 .i64 Try.underlying30 hi052 Ao12 t293.length co12 x15_4 (of_decide_eq_true (by first | (with_reducible assumption) | assumption)) q52 hroom52
                                          have hr52 := Kd.C_take (m := (x15_4 : Int).toNat) hC52 (by omega)
                                          have hy52 : y312.length = (x15_4 : Int).toNat := (by rw [Ny312.out, List.length_take]; omega)
                                          rw [← Ny312.out] at hr52
                                          rw [← hy52] at hcut52
                                          have HR315 := Aside0.mk hr52
                                          have HC315 := Aside0.mk (show y312.length ≤ co12 from by omega)
                                          clear hr52 hC52 hroom52 hi052 hsz52
                                          have KY52 := Aside0.mk hy52
                                          clear hy52
                                          have KL52 := Aside0.mk (show (x15_4 : Int).toNat ≤ t293.length from by omega)
                                          replace q52 := eq_true q52
                                          go_wp2_with (first | ((with_reducible refine gate_callee (f := 15) rfl ?_); refine goesL_ (some 98) rfl rfl Try.func15 (by kernel_rfl) rfl #[.slice Ao12 y312.length co12] rfl (by (try simp only [List.map_toArray, List.map_cons, List.map_nil]); first | done | rfl | (simp only [List.length_drop, List.length_take]; rfl)) ?_; (with_reducible refine (tuple_Write.calls _ _ y312 t316 t317 _ ?side1 ?side2 A44.out).mono ?_); (case side1 => repeat (first | exact (by repeat (first | (with_reducible exact HR315.out) | (with_reducible refine Kd.C_alloc ?_ _) | (with_reducible refine Kd.C_drewN ?_ _) | (with_reducible refine Kd.C_drew ?_) | exact HR315.out)) | (with_reducible refine Kd.C_alloc ?_ _) | (with_reducible refine Kd.C_drewN ?_ _) | (with_reducible refine Kd.C_drew ?_))); (case side2 => exact HC315.out); rintro e w53 ⟨rfl, hb⟩; refine ⟨_, rfl, ?_⟩; have n0_ := Aside0.mk (Kd.R_below (by (with_reducible repeat (first | apply Kd.R_alloc | apply Kd.R_drewN | apply Kd.R_drew)); exact HO_7.out) hb); have n1_ := Aside0.mk (Kd.C_below (by repeat (first | (with_reducible exact HR315.out) | (with_reducible refine Kd.C_alloc ?_ _) | (with_reducible refine Kd.C_drewN ?_ _) | (with_reducible refine Kd.C_drew ?_) | exact HR315.out)) hb); have n2_ := Aside0.mk (below_step (by repeat (first | (with_reducible first | exact HB.out | apply below_alloc | apply pw_below_drewN | apply below_drew1) | exact HB.out)) hb); clear HO_7; clear HR315; clear HB; have HO_7 := n0_; have HR315 := n1_; have HB := n2_; clear n0_ n1_ n2_; (try clear hb); (try clear hb2); (try clear hk); (try clear hi)))
                                          go_roundg k4
                                          case measure => have := HJ8.out; have := HJ22.out; have := HJ27.out; have := HK4.out; omega
                                          case rel => exact ⟨(wrap64 (x15_4 + 1)), (by first | rfl | (simp; done) | (simp [Go.Proofs.Ytbohpjbcjnapfaa.Z.bne_nil, Go.Proofs.Ytbohpjbcjnapfaa.Z.beq_nil]; done) | (simp [*]; done)), H', ⟨by have := HJ8.out; have := HJ22.out; have := HJ27.out; have := HK4.out; omega⟩, ⟨by (with_reducible repeat (first | apply Kd.R_alloc | apply Kd.R_drewN | apply Kd.R_drew)); exact HO_7.out⟩, ⟨by repeat (first | (with_reducible first | exact HB.out | apply below_alloc | apply pw_below_drewN | apply below_drew1) | exact HB.out)⟩⟩
                                      · rw [if_neg c45] at H
                                        exact absurd H (by simp)
                                    · rw [if_neg c43] at H
                                      exact absurd H (by simp)
                                  · rw [if_neg c42] at H
                                    exact absurd H (by simp)
                                · rw [if_neg c41] at H
                                  have c41b0 : decide (x15_4 < (t293.length : Int)) = false := decide_eq_false c41
                                  clear c41
                                  have H' := Aside0.mk H
                                  clear H
                                  go_wp2
                                  go_meet
                                  case rel => exact ⟨_, H', ⟨by have := HJ8.out; have := HJ22.out; have := HJ27.out; have := HK4.out; first | omega | exact Nat.le_refl _⟩, ⟨by repeat (first | (with_reducible first | exact HB.out | apply below_alloc | apply pw_below_drewN | apply below_drew1) | exact HB.out)⟩⟩
                      · rw [if_neg c26] at H
                        exact absurd H (by simp)
                    · rw [if_neg c25] at H
                      exact absurd H (by simp)
          case rest =>
            clear HC20
            try clear c1
            try clear c2
            try clear p2
            try clear c3
            try clear q3
            try clear c4
            try clear c5
            try clear q5
            try clear c6
            try clear p6
            try clear c10
            try clear c15
            try clear c15b0
            try clear c15b1
            try clear c16
            try clear c16b0
            try clear c16b1
            try clear c19
            try clear c21
            try clear c21b0
            try clear c21b1
            try clear c22
            try clear c22b0
            try clear c22b1
            try clear c24
            try clear c24b0
            try clear c24b1
            try clear c25
            try clear c25b0
            try clear c25b1
            try clear c26
            try clear c26b0
            try clear c26b1
            try clear c30
            try clear c30b0
            try clear c30b1
            try clear c31
            try clear c31b0
            try clear c31b1
            try clear c32
            try clear c32b0
            try clear c32b1
            try clear c33
            try clear c33b0
            try clear c33b1
            try clear c35
            try clear q37
            try clear c38
            try clear c38b0
            try clear c38b1
            try clear c39
            try clear c39b0
            try clear c39b1
            try clear c41
            try clear c41b0
            try clear c42
            try clear c42b0
            try clear c42b1
            try clear c43
            try clear c43b0
            try clear c43b1
            try clear c45
            try clear c45b0
            try clear c45b1
            try clear c46
            try clear c46b0
            try clear c46b1
            try clear c47
            try clear c47b0
            try clear c47b1
            try clear c48
            try clear c48b0
            try clear c48b1
            try clear c49
            try clear c49b0
            try clear c49b1
            try clear q50
            try clear q52
            try clear p2
            try clear p6
            try clear q3
            try clear q37
            try clear q50
            try clear q52
            obtain ⟨kq, HA, HJ19, HB⟩ := hcut
            cases kq with
            | zero => exact absurd HA.out (by simp [cofferlaw05_TupleBack.j4])
            | succ kj19 =>
              have H := HA.out
              clear HA
              simp only [cofferlaw05_TupleBack.j4] at H
              replace H := Option.bind_eq_some_iff.mp H
              obtain ⟨⟨t318, t319⟩, A540, H⟩ := H
              replace H : (if t319 = 0 then ((tuple_Write.f t318).bind fun bt322 => (if bt322.2 = 0 then (some (bt322.1.toList == a2.toList)) else (none))) else (if t319 = 4 then (some ((t318.length : Int) == 0)) else (none))) = some r := H
              have A54 := Aside0.mk A540
              clear A540
              by_cases c55 : t319 = 0
              · rw [if_pos c55] at H
                have c55b0 : (t319 == 0) = true := beq_iff_eq.mpr c55
                have c55b1 : (t319 != 0) = false := bne_eq_false_iff_eq.mpr c55
                clear c55
                replace H := Option.bind_eq_some_iff.mp H
                obtain ⟨⟨t322, t323⟩, A560, H⟩ := H
                replace H : (if t323 = 0 then (some (t322.toList == a2.toList)) else (none)) = some r := H
                have A56 := Aside0.mk A560
                clear A560
                by_cases c57 : t323 = 0
                · rw [if_pos c57] at H
                  have c57b0 : (t323 == 0) = true := beq_iff_eq.mpr c57
                  have c57b1 : (t323 != 0) = false := bne_eq_false_iff_eq.mpr c57
                  clear c57
                  obtain rfl := Option.some.inj H
                  go_wp2_with (first | ((with_reducible refine gate_callee (f := 19) rfl ?_); refine goesL_ (some 123) rfl rfl Try.func19 (by kernel_rfl) rfl #[.string a2] rfl (by (try simp only [List.map_toArray, List.map_cons, List.map_nil]); first | done | rfl | (simp only [List.length_drop, List.length_take]; rfl)) ?_; (with_reducible refine (tuple_Read.calls kj19 a2 t318 t319 _ A54.out).mono ?_); rintro e w58 ⟨v320, rfl, ho0, hb⟩; refine ⟨_, rfl, ?_⟩; have n0_ := Aside0.mk (Kd.R_lower ho0 (below_size (by repeat (first | (with_reducible first | exact HB.out | apply below_alloc | apply pw_below_drewN | apply below_drew1) | exact HB.out)))); have n1_ := Aside0.mk (below_step (by repeat (first | (with_reducible first | exact HB.out | apply below_alloc | apply pw_below_drewN | apply below_drew1) | exact HB.out)) hb); clear HB; have HO321 := n0_; have HB := n1_; clear n0_ n1_; (try clear hb); (try clear hb2); (try clear hk); (try clear hi); (try clear ho0); obtain ⟨Ao59, co59, eo59⟩ := Kd.R_slice HO321.out; subst eo59) | ((with_reducible refine gate_callee (f := 15) rfl ?_); refine goesL_ (some 137) rfl rfl Try.func15 (by kernel_rfl) rfl #[.slice Ao59 t318.length co59] rfl (by (try simp only [List.map_toArray, List.map_cons, List.map_nil]); first | done | rfl | (simp only [List.length_drop, List.length_take]; rfl)) ?_; (with_reducible refine (tuple_Write.calls _ _ t318 t322 t323 _ ?side1 ?side2 A56.out).mono ?_); (case side1 => repeat (first | exact (Kd.R_reads' HO321.out).2.2 | (with_reducible refine Kd.C_alloc ?_ _) | (with_reducible refine Kd.C_drewN ?_ _) | (with_reducible refine Kd.C_drew ?_))); (case side2 => exact (Kd.R_reads' HO321.out).2.1); rintro e w60 ⟨rfl, hb⟩; refine ⟨_, rfl, ?_⟩; have n0_ := Aside0.mk (Kd.R_below (by (with_reducible repeat (first | apply Kd.R_alloc | apply Kd.R_drewN | apply Kd.R_drew)); exact HO321.out) hb); have n1_ := Aside0.mk (below_step (by repeat (first | (with_reducible first | exact HB.out | apply below_alloc | apply pw_below_drewN | apply below_drew1) | exact HB.out)) hb); clear HO321; clear HB; have HO321 := n0_; have HB := n1_; clear n0_ n1_; (try clear hb); (try clear hb2); (try clear hk); (try clear hi)))
                  go_ret
                  exact ⟨by first | rfl | (simp [errW_none, errW_some] <;> rfl) | (simp [*, errW_none, errW_some] <;> rfl), by repeat (first | (with_reducible first | exact HB.out | apply below_alloc | apply pw_below_drewN | apply below_drew1) | exact HB.out)⟩
                · rw [if_neg c57] at H
                  exact absurd H (by simp)
              · rw [if_neg c55] at H
                have c55b0 : (t319 == 0) = false := beq_eq_false_iff_ne.mpr c55
                have c55b1 : (t319 != 0) = true := bne_iff_ne.mpr c55
                by_cases c61 : t319 = 4
                · rw [if_pos c61] at H
                  have c61b0 : (t319 == 4) = true := beq_iff_eq.mpr c61
                  have c61b1 : (t319 != 4) = false := bne_eq_false_iff_eq.mpr c61
                  clear c61
                  obtain rfl := Option.some.inj H
                  go_wp2_with (first | ((with_reducible refine gate_callee (f := 19) rfl ?_); refine goesL_ (some 123) rfl rfl Try.func19 (by kernel_rfl) rfl #[.string a2] rfl (by (try simp only [List.map_toArray, List.map_cons, List.map_nil]); first | done | rfl | (simp only [List.length_drop, List.length_take]; rfl)) ?_; (with_reducible refine (tuple_Read.calls kj19 a2 t318 t319 _ A54.out).mono ?_); rintro e w62 ⟨v320, rfl, ho0, hb⟩; refine ⟨_, rfl, ?_⟩; have n0_ := Aside0.mk (Kd.R_lower ho0 (below_size (by repeat (first | (with_reducible first | exact HB.out | apply below_alloc | apply pw_below_drewN | apply below_drew1) | exact HB.out)))); have n1_ := Aside0.mk (below_step (by repeat (first | (with_reducible first | exact HB.out | apply below_alloc | apply pw_below_drewN | apply below_drew1) | exact HB.out)) hb); clear HB; have HO321 := n0_; have HB := n1_; clear n0_ n1_; (try clear hb); (try clear hb2); (try clear hk); (try clear hi); (try clear ho0); obtain ⟨Ao63, co63, eo63⟩ := Kd.R_slice HO321.out; subst eo63))
                  go_ret
                  exact ⟨by first | rfl | (simp [errW_none, errW_some] <;> rfl) | (simp [*, errW_none, errW_some] <;> rfl), by repeat (first | (with_reducible first | exact HB.out | apply below_alloc | apply pw_below_drewN | apply below_drew1) | exact HB.out)⟩
                · rw [if_neg c61] at H
                  exact absurd H (by simp)
  · replace c5 := Bool.eq_false_iff.mpr c5
    subst c5
    have H1 : (none) = some r := by rw [if_neg (show ¬ (false = true) by decide)] at H; exact H
    clear H
    have H := H1
    clear H1
    exact absurd H (by simp)

end Go.Proofs.Ytbohpjbcjnapfaa.X
