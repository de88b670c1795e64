-- By a program of this session (wip/xprint.py over the kit's print).
import Derived.Test.YtbohpjbcjnapfaaX0
import Derived.Test.YtbohpjbcjnapfaaX20
import Derived.Test.YtbohpjbcjnapfaaX36
namespace Go.Proofs.Ytbohpjbcjnapfaa.X
open Go.RowKit Go.Proofs.YtbohpjbcjnapfaaW.PrintWords Go.Proofs.YtbohpjbcjnapfaaW.PrintLast Go.Proofs.YtbohpjbcjnapfaaW.PrintMore
attribute [local go_sem] max2_int min2_int max_two min_two max_three min_three max_four min_four Go.Proofs.Ytbohpjbcjnapfaa.Z.leq_string Go.Proofs.Ytbohpjbcjnapfaa.Z.gtr_string Go.Proofs.Ytbohpjbcjnapfaa.Z.geq_string   -- for this text's walks alone
set_option linter.unusedVariables false
set_option linter.unusedSimpArgs false

/-! ### cofferlaw05_TupleSizes: function 8 -/
mutual
def cofferlaw05_TupleSizes.j0 : Nat → ByteArray → Int → ByteArray → Int → Int → Option (Bool)
  | 0, _, _, _, _, _ => none
  | k + 1, x0, x1, x5, x6, x7 => if x6 = 0 then (if (x5.size : Int) = (wrap64 (1 + (wrap64 (9 * x7)))) then (if 0 < (x5.size : Int) then (cofferlaw05_TupleSizes.j1 k x0 x1 x5 x7 ((bt x5 0) != 1)) else (none)) else (cofferlaw05_TupleSizes.j1 k x0 x1 x5 x7 true)) else (cofferlaw05_TupleSizes.j1 k x0 x1 x5 x7 true)
def cofferlaw05_TupleSizes.j1 : Nat → ByteArray → Int → ByteArray → Int → Bool → Option (Bool)
  | 0, _, _, _, _, _ => none
  | k + 1, x0, x1, x5, x7, x47 => if x47 = true then (none) else (cofferlaw05_TupleSizes.l0 k x0 x1 x5 x7 0)
def cofferlaw05_TupleSizes.l0 : Nat → ByteArray → Int → ByteArray → Int → Int → Option (Bool)
  | 0, _, _, _, _, _ => none
  | k + 1, x0, x1, x5, x7, x8 => if x8 < x7 then (cofferlaw05_TupleSizes.l1 k x0 x1 x5 x7 x8 0) else ((tuple_Write.f (([(⟨2, (⟨#[]⟩ : ByteArray), x1⟩ : S52)] : List (S52)))).bind fun bt270 => ((tuple_Write.f (([(⟨3, (⟨#[]⟩ : ByteArray), x1⟩ : S52)] : List (S52)))).bind fun bt275 => (if bt270.2 = 0 then (if bt275.2 = 0 then (if (bt270.1.size : Int) = 9 then (if (bt275.1.size : Int) = 9 then (if 0 < (bt270.1.size : Int) then (if (bt bt270.1 0) = 2 then (if 0 < (bt275.1.size : Int) then (cofferlaw05_TupleSizes.j4 k x1 bt270.1 bt275.1 ((bt bt275.1 0) != 3)) else (none)) else (cofferlaw05_TupleSizes.j4 k x1 bt270.1 bt275.1 true)) else (none)) else (cofferlaw05_TupleSizes.j4 k x1 bt270.1 bt275.1 true)) else (cofferlaw05_TupleSizes.j4 k x1 bt270.1 bt275.1 true)) else (cofferlaw05_TupleSizes.j4 k x1 bt270.1 bt275.1 true)) else (cofferlaw05_TupleSizes.j4 k x1 bt270.1 bt275.1 true))))
def cofferlaw05_TupleSizes.l1 : Nat → ByteArray → Int → ByteArray → Int → Int → Int → Option (Bool)
  | 0, _, _, _, _, _, _ => none
  | k + 1, x0, x1, x5, x7, x8, x9 => if x9 < 8 then (if (wrap64 ((wrap64 (8 * x8)) + x9)) < (x0.size : Int) then (if 0 ≤ (wrap64 ((wrap64 (8 * x8)) + x9)) then (if 0 ≤ (wrap64 ((wrap64 (1 + (wrap64 (9 * x8)))) + x9)) then (if (wrap64 ((wrap64 (1 + (wrap64 (9 * x8)))) + x9)) < (x5.size : Int) then (if (bt x5 (wrap64 ((wrap64 (1 + (wrap64 (9 * x8)))) + x9))) = (bt x0 (wrap64 ((wrap64 (8 * x8)) + x9))) then (cofferlaw05_TupleSizes.l1 k x0 x1 x5 x7 x8 (wrap64 (x9 + 1))) else (none)) else (none)) else (none)) else (none)) else (if 0 ≤ (wrap64 ((wrap64 (1 + (wrap64 (9 * x8)))) + x9)) then (if (wrap64 ((wrap64 (1 + (wrap64 (9 * x8)))) + x9)) < (x5.size : Int) then (if (bt x5 (wrap64 ((wrap64 (1 + (wrap64 (9 * x8)))) + x9))) = 0 then (cofferlaw05_TupleSizes.l1 k x0 x1 x5 x7 x8 (wrap64 (x9 + 1))) else (none)) else (none)) else (none))) else (if x8 = (wrap64 (x7 - 1)) then (if 0 ≤ (wrap64 ((wrap64 (9 * x8)) + 9)) then (if (wrap64 ((wrap64 (9 * x8)) + 9)) < (x5.size : Int) then (if (bt x5 (wrap64 ((wrap64 (9 * x8)) + 9))) = ((wrap64 ((x0.size : Int) - (wrap64 (8 * x8)))) % 256) then (cofferlaw05_TupleSizes.l0 k x0 x1 x5 x7 (wrap64 (x8 + 1))) else (none)) else (none)) else (none)) else (if 0 ≤ (wrap64 ((wrap64 (9 * x8)) + 9)) then (if (wrap64 ((wrap64 (9 * x8)) + 9)) < (x5.size : Int) then (if (bt x5 (wrap64 ((wrap64 (9 * x8)) + 9))) = 9 then (cofferlaw05_TupleSizes.l0 k x0 x1 x5 x7 (wrap64 (x8 + 1))) else (none)) else (none)) else (none)))
def cofferlaw05_TupleSizes.j4 : Nat → Int → ByteArray → ByteArray → Bool → Option (Bool)
  | 0, _, _, _, _ => none
  | k + 1, x1, x12, x14, x135 => if x135 = true then (none) else (cofferlaw05_TupleSizes.l2 k x1 x12 x14 0 1)
def cofferlaw05_TupleSizes.l2 : Nat → Int → ByteArray → ByteArray → Int → Int → Option (Bool)
  | 0, _, _, _, _, _ => none
  | k + 1, x1, x12, x14, x16, x17 => if x17 < 9 then (if 0 ≤ x17 then (if x17 < (x12.size : Int) then (if x17 < (x14.size : Int) then (if (Go.bits .xor .u8 (bt x12 x17) (bt x14 x17)) = 255 then (cofferlaw05_TupleSizes.l2 k x1 x12 x14 (Go.bits .or .u64 (IntKind.u64.wrap (x16 * 256)) (IntKind.u64.wrap (bt x12 x17))) (wrap64 (x17 + 1))) else (none)) else (none)) else (none)) else (none)) else (some ((wrap64 (IntKind.u64.wrap (x16 - 9223372036854775808))) == x1))
end
def cofferlaw05_TupleSizes.f (k : Nat) (a0 : ByteArray) (a1 : Int) : Option (Bool) := (cofferlaw05_head.f k).bind fun t261 => (if t261 = true then ((tuple_Write.f (([(⟨1, a0, 0⟩ : S52)] : List (S52)))).bind fun bt265 => (if a0.toList = ([] : List UInt8) then (cofferlaw05_TupleSizes.j0 k a0 a1 bt265.1 bt265.2 1) else (cofferlaw05_TupleSizes.j0 k a0 a1 bt265.1 bt265.2 (wrap64 (Int.tdiv (wrap64 ((a0.size : Int) + 7)) 8))))) else (none))
theorem cofferlaw05_TupleSizes.mono_l : ∀ k, (∀ y0 y1 y2 y3 y4, LeO (cofferlaw05_TupleSizes.j0 k y0 y1 y2 y3 y4) (cofferlaw05_TupleSizes.j0 (k + 1) y0 y1 y2 y3 y4)) ∧ (∀ y0 y1 y2 y3 y4, LeO (cofferlaw05_TupleSizes.j1 k y0 y1 y2 y3 y4) (cofferlaw05_TupleSizes.j1 (k + 1) y0 y1 y2 y3 y4)) ∧ (∀ y0 y1 y2 y3 y4, LeO (cofferlaw05_TupleSizes.l0 k y0 y1 y2 y3 y4) (cofferlaw05_TupleSizes.l0 (k + 1) y0 y1 y2 y3 y4)) ∧ (∀ y0 y1 y2 y3 y4 y5, LeO (cofferlaw05_TupleSizes.l1 k y0 y1 y2 y3 y4 y5) (cofferlaw05_TupleSizes.l1 (k + 1) y0 y1 y2 y3 y4 y5)) ∧ (∀ y0 y1 y2 y3, LeO (cofferlaw05_TupleSizes.j4 k y0 y1 y2 y3) (cofferlaw05_TupleSizes.j4 (k + 1) y0 y1 y2 y3)) ∧ (∀ y0 y1 y2 y3 y4, LeO (cofferlaw05_TupleSizes.l2 k y0 y1 y2 y3 y4) (cofferlaw05_TupleSizes.l2 (k + 1) y0 y1 y2 y3 y4))
  | 0 => ⟨fun _ _ _ _ _ r h => by simp [cofferlaw05_TupleSizes.j0] at h, fun _ _ _ _ _ r h => by simp [cofferlaw05_TupleSizes.j1] at h, fun _ _ _ _ _ r h => by simp [cofferlaw05_TupleSizes.l0] at h, fun _ _ _ _ _ _ r h => by simp [cofferlaw05_TupleSizes.l1] at h, fun _ _ _ _ r h => by simp [cofferlaw05_TupleSizes.j4] at h, fun _ _ _ _ _ r h => by simp [cofferlaw05_TupleSizes.l2] at h⟩
  | k + 1 => by
    obtain ⟨ih0, ih1, ih2, ih3, ih4, ih5⟩ := cofferlaw05_TupleSizes.mono_l k
    refine ⟨?_, ?_, ?_, ?_, ?_, ?_⟩
    · intro y0 y1 y2 y3 y4
      unfold cofferlaw05_TupleSizes.j0
      repeat' first
      | (with_reducible exact ih0 _ _ _ _ _)
      | (with_reducible exact ih1 _ _ _ _ _)
      | (with_reducible exact ih2 _ _ _ _ _)
      | (with_reducible exact ih3 _ _ _ _ _ _)
      | (with_reducible exact ih4 _ _ _ _)
      | (with_reducible exact ih5 _ _ _ _ _)
      | (with_reducible exact cofferlaw05_head.mono _)
      | (with_reducible exact LeO.refl _)
      | (with_reducible exact LeO.none _)
      | (with_reducible refine LeO.ite ?_ ?_)
      | (with_reducible refine LeO.bind ?_ (fun _ => ?_))
      | exact ih0 _ _ _ _ _
      | exact ih1 _ _ _ _ _
      | exact ih2 _ _ _ _ _
      | exact ih3 _ _ _ _ _ _
      | exact ih4 _ _ _ _
      | exact ih5 _ _ _ _ _
      | exact cofferlaw05_head.mono _
      | exact LeO.none _
      | refine LeO.ite ?_ ?_
      | refine LeO.bind ?_ (fun _ => ?_)
    · intro y0 y1 y2 y3 y4
      unfold cofferlaw05_TupleSizes.j1
      repeat' first
      | (with_reducible exact ih0 _ _ _ _ _)
      | (with_reducible exact ih1 _ _ _ _ _)
      | (with_reducible exact ih2 _ _ _ _ _)
      | (with_reducible exact ih3 _ _ _ _ _ _)
      | (with_reducible exact ih4 _ _ _ _)
      | (with_reducible exact ih5 _ _ _ _ _)
      | (with_reducible exact cofferlaw05_head.mono _)
      | (with_reducible exact LeO.refl _)
      | (with_reducible exact LeO.none _)
      | (with_reducible refine LeO.ite ?_ ?_)
      | (with_reducible refine LeO.bind ?_ (fun _ => ?_))
      | exact ih0 _ _ _ _ _
      | exact ih1 _ _ _ _ _
      | exact ih2 _ _ _ _ _
      | exact ih3 _ _ _ _ _ _
      | exact ih4 _ _ _ _
      | exact ih5 _ _ _ _ _
      | exact cofferlaw05_head.mono _
      | exact LeO.none _
      | refine LeO.ite ?_ ?_
      | refine LeO.bind ?_ (fun _ => ?_)
    · intro y0 y1 y2 y3 y4
      unfold cofferlaw05_TupleSizes.l0
      repeat' first
      | (with_reducible exact ih0 _ _ _ _ _)
      | (with_reducible exact ih1 _ _ _ _ _)
      | (with_reducible exact ih2 _ _ _ _ _)
      | (with_reducible exact ih3 _ _ _ _ _ _)
      | (with_reducible exact ih4 _ _ _ _)
      | (with_reducible exact ih5 _ _ _ _ _)
      | (with_reducible exact cofferlaw05_head.mono _)
      | (with_reducible exact LeO.refl _)
      | (with_reducible exact LeO.none _)
      | (with_reducible refine LeO.ite ?_ ?_)
      | (with_reducible refine LeO.bind ?_ (fun _ => ?_))
      | exact ih0 _ _ _ _ _
      | exact ih1 _ _ _ _ _
      | exact ih2 _ _ _ _ _
      | exact ih3 _ _ _ _ _ _
      | exact ih4 _ _ _ _
      | exact ih5 _ _ _ _ _
      | exact cofferlaw05_head.mono _
      | exact LeO.none _
      | refine LeO.ite ?_ ?_
      | refine LeO.bind ?_ (fun _ => ?_)
    · intro y0 y1 y2 y3 y4 y5
      unfold cofferlaw05_TupleSizes.l1
      repeat' first
      | (with_reducible exact ih0 _ _ _ _ _)
      | (with_reducible exact ih1 _ _ _ _ _)
      | (with_reducible exact ih2 _ _ _ _ _)
      | (with_reducible exact ih3 _ _ _ _ _ _)
      | (with_reducible exact ih4 _ _ _ _)
      | (with_reducible exact ih5 _ _ _ _ _)
      | (with_reducible exact cofferlaw05_head.mono _)
      | (with_reducible exact LeO.refl _)
      | (with_reducible exact LeO.none _)
      | (with_reducible refine LeO.ite ?_ ?_)
      | (with_reducible refine LeO.bind ?_ (fun _ => ?_))
      | exact ih0 _ _ _ _ _
      | exact ih1 _ _ _ _ _
      | exact ih2 _ _ _ _ _
      | exact ih3 _ _ _ _ _ _
      | exact ih4 _ _ _ _
      | exact ih5 _ _ _ _ _
      | exact cofferlaw05_head.mono _
      | exact LeO.none _
      | refine LeO.ite ?_ ?_
      | refine LeO.bind ?_ (fun _ => ?_)
    · intro y0 y1 y2 y3
      unfold cofferlaw05_TupleSizes.j4
      repeat' first
      | (with_reducible exact ih0 _ _ _ _ _)
      | (with_reducible exact ih1 _ _ _ _ _)
      | (with_reducible exact ih2 _ _ _ _ _)
      | (with_reducible exact ih3 _ _ _ _ _ _)
      | (with_reducible exact ih4 _ _ _ _)
      | (with_reducible exact ih5 _ _ _ _ _)
      | (with_reducible exact cofferlaw05_head.mono _)
      | (with_reducible exact LeO.refl _)
      | (with_reducible exact LeO.none _)
      | (with_reducible refine LeO.ite ?_ ?_)
      | (with_reducible refine LeO.bind ?_ (fun _ => ?_))
      | exact ih0 _ _ _ _ _
      | exact ih1 _ _ _ _ _
      | exact ih2 _ _ _ _ _
      | exact ih3 _ _ _ _ _ _
      | exact ih4 _ _ _ _
      | exact ih5 _ _ _ _ _
      | exact cofferlaw05_head.mono _
      | exact LeO.none _
      | refine LeO.ite ?_ ?_
      | refine LeO.bind ?_ (fun _ => ?_)
    · intro y0 y1 y2 y3 y4
      unfold cofferlaw05_TupleSizes.l2
      repeat' first
      | (with_reducible exact ih0 _ _ _ _ _)
      | (with_reducible exact ih1 _ _ _ _ _)
      | (with_reducible exact ih2 _ _ _ _ _)
      | (with_reducible exact ih3 _ _ _ _ _ _)
      | (with_reducible exact ih4 _ _ _ _)
      | (with_reducible exact ih5 _ _ _ _ _)
      | (with_reducible exact cofferlaw05_head.mono _)
      | (with_reducible exact LeO.refl _)
      | (with_reducible exact LeO.none _)
      | (with_reducible refine LeO.ite ?_ ?_)
      | (with_reducible refine LeO.bind ?_ (fun _ => ?_))
      | exact ih0 _ _ _ _ _
      | exact ih1 _ _ _ _ _
      | exact ih2 _ _ _ _ _
      | exact ih3 _ _ _ _ _ _
      | exact ih4 _ _ _ _
      | exact ih5 _ _ _ _ _
      | exact cofferlaw05_head.mono _
      | exact LeO.none _
      | refine LeO.ite ?_ ?_
      | refine LeO.bind ?_ (fun _ => ?_)
theorem cofferlaw05_TupleSizes.mono : ∀ a0 a1 k, LeO (cofferlaw05_TupleSizes.f k a0 a1) (cofferlaw05_TupleSizes.f (k + 1) a0 a1) := by
  intro a0 a1 k
  obtain ⟨ih0, ih1, ih2, ih3, ih4, ih5⟩ := cofferlaw05_TupleSizes.mono_l k
  unfold cofferlaw05_TupleSizes.f
  repeat' first
      | (with_reducible exact ih0 _ _ _ _ _)
      | (with_reducible exact ih1 _ _ _ _ _)
      | (with_reducible exact ih2 _ _ _ _ _)
      | (with_reducible exact ih3 _ _ _ _ _ _)
      | (with_reducible exact ih4 _ _ _ _)
      | (with_reducible exact ih5 _ _ _ _ _)
      | (with_reducible exact cofferlaw05_head.mono _)
      | (with_reducible exact LeO.refl _)
      | (with_reducible exact LeO.none _)
      | (with_reducible refine LeO.ite ?_ ?_)
      | (with_reducible refine LeO.bind ?_ (fun _ => ?_))
      | exact ih0 _ _ _ _ _
      | exact ih1 _ _ _ _ _
      | exact ih2 _ _ _ _ _
      | exact ih3 _ _ _ _ _ _
      | exact ih4 _ _ _ _
      | exact ih5 _ _ _ _ _
      | exact cofferlaw05_head.mono _
      | exact LeO.none _
      | refine LeO.ite ?_ ?_
      | refine LeO.bind ?_ (fun _ => ?_)
set_option maxHeartbeats 8000000 in
set_option maxRecDepth 100000 in
theorem cofferlaw05_TupleSizes.calls (k : Nat) (a0 : ByteArray) (a1 : Int) (r : Bool) (w : World) (h : cofferlaw05_TupleSizes.f k a0 a1 = some r) :
    Calls Try.prog 8 #[.string a0, .int .i64 a1] w fun e w' => e = .returned (.bool r) ∧ Below w.heap.size w w' := by
  have hu52 := Try.underlying52
  have HB := Aside0.mk (Below.refl w.heap.size w)
  have H : ((cofferlaw05_head.f k).bind fun t261 => (if t261 = true then ((tuple_Write.f (([(⟨1, a0, 0⟩ : S52)] : List (S52)))).bind fun bt265 => (if a0.toList = ([] : List UInt8) then (cofferlaw05_TupleSizes.j0 k a0 a1 bt265.1 bt265.2 1) else (cofferlaw05_TupleSizes.j0 k a0 a1 bt265.1 bt265.2 (wrap64 (Int.tdiv (wrap64 ((a0.size : Int) + 7)) 8))))) else (none))) = some r := h
  clear h
  replace H := Option.bind_eq_some_iff.mp H
  obtain ⟨t261, A30, H⟩ := H
  replace H : (if t261 = true then ((tuple_Write.f (([(⟨1, a0, 0⟩ : S52)] : List (S52)))).bind fun bt265 => (if a0.toList = ([] : List UInt8) then (cofferlaw05_TupleSizes.j0 k a0 a1 bt265.1 bt265.2 1) else (cofferlaw05_TupleSizes.j0 k a0 a1 bt265.1 bt265.2 (wrap64 (Int.tdiv (wrap64 ((a0.size : Int) + 7)) 8))))) else (none)) = some r := H
  have A3 := Aside0.mk A30
  clear A30
  by_cases c4 : t261 = true
  · subst c4
    have H1 : ((tuple_Write.f (([(⟨1, a0, 0⟩ : S52)] : List (S52)))).bind fun bt265 => (if a0.toList = ([] : List UInt8) then (cofferlaw05_TupleSizes.j0 k a0 a1 bt265.1 bt265.2 1) else (cofferlaw05_TupleSizes.j0 k a0 a1 bt265.1 bt265.2 (wrap64 (Int.tdiv (wrap64 ((a0.size : Int) + 7)) 8))))) = some r := by rw [if_pos rfl] at H; exact H
    clear H
    have H := H1
    clear H1
    obtain ⟨y262, hy262⟩ : ∃ y_ : List (S52), y_ = (([(⟨1, a0, 0⟩ : S52)] : List (S52))) := ⟨_, rfl⟩
    replace H : ((tuple_Write.f y262).bind fun bt265 => (if a0.toList = ([] : List UInt8) then (cofferlaw05_TupleSizes.j0 k a0 a1 bt265.1 bt265.2 1) else (cofferlaw05_TupleSizes.j0 k a0 a1 bt265.1 bt265.2 (wrap64 (Int.tdiv (wrap64 ((a0.size : Int) + 7)) 8))))) = some r := by first | (rw [hy262]; with_reducible exact H) | (have H2_ := (Option.bind_some _ _).symm.trans H; rw [hy262]; with_reducible exact H2_) | (have H2_ := (Option.bind_some _ _).symm.trans H; with_reducible exact H2_) | with_reducible exact H | (rw [hy262]; exact H) | exact H
    have Ny262 := Aside0.mk hy262
    clear hy262
    replace H := Option.bind_eq_some_iff.mp H
    obtain ⟨⟨t265, t266⟩, A50, H⟩ := H
    replace H : (if a0.toList = ([] : List UInt8) then (cofferlaw05_TupleSizes.j0 k a0 a1 t265 t266 1) else (cofferlaw05_TupleSizes.j0 k a0 a1 t265 t266 (wrap64 (Int.tdiv (wrap64 ((a0.size : Int) + 7)) 8)))) = some r := H
    have A5 := Aside0.mk A50
    clear A50
    have HC6 := Aside0.mk H
    clear H
    go_enter Try.func8, Try.ntmps8
    go_upto_if 32 with (first | (go_at_call 10; (with_reducible refine (cofferlaw05_head.calls k  true _ A3.out).mono ?_); rintro e w7 ⟨rfl, hb⟩; have n0_ := Aside0.mk (below_step (by repeat (first | (with_reducible first | exact HB.out | apply below_alloc | apply pw_below_drewN | apply below_drew1) | exact HB.out)) hb); clear HB; have HB := n0_; clear n0_; (try clear hb); (try clear hb2); (try clear hk); (try clear hi)) | ((with_reducible refine gate_dst (N := 23) rfl ?_); (try (refine gate_guard (by rfl) ?_; dsimp only)); refine Kd.R_lit k52 _ 52 ?hg (N := 23) ?hd (xs := ([(⟨1, a0, 0⟩ : S52)] : List (S52))) (inner := [.int .i64 1, .string a0, .int .i64 0]) (ok := fun _ => True) (okp := fun _ => True) ?hr ?hp (fun _ hk => hk) trivial (Below.refl _ _) (Nat.le_refl _) (by simp) ?_; (case hd => rfl); (case hg => rfl); (case hr => first | (go_simp; done) | (go_simp; rfl)); (case hp => exact (Reps.c3 (show Kd.M k52 _ _ _ (⟨1, a0, 0⟩ : S52) [.int .i64 1, .string a0, .int .i64 0] from (k52_mkM _ _ _ (⟨1, a0, 0⟩ : S52) )) (Reps.none _ _))); intro v263 w8 ho9 hb hg_ hnew_; clear hg_ hnew_; (first | rw [← Ny262.out] at ho9 | (simp only [Int.reduceToNat] at ho9; rw [← Ny262.out] at ho9)); have n0_ := Aside0.mk (Kd.R_lower ho9 (below_size (by repeat (first | (with_reducible first | exact HB.out | apply below_alloc | apply pw_below_drewN | apply below_drew1) | exact HB.out)))); have n1_ := Aside0.mk (below_step (by repeat (first | (with_reducible first | exact HB.out | apply below_alloc | apply pw_below_drewN | apply below_drew1) | exact HB.out)) hb); clear HB; have HO264 := n0_; have HB := n1_; clear n0_ n1_; clear hb ho9; obtain ⟨Ao10, co10, eo10⟩ := Kd.R_slice HO264.out; subst eo10) | (go_at_call 15; (with_reducible refine (tuple_Write.calls _ _ y262 t265 t266 _ ?side1 ?side2 A5.out).mono ?_); (case side1 => repeat (first | exact (Kd.R_reads' HO264.out).2.2 | (with_reducible refine Kd.C_alloc ?_ _) | (with_reducible refine Kd.C_drewN ?_ _) | (with_reducible refine Kd.C_drew ?_))); (case side2 => exact (Kd.R_reads' HO264.out).2.1); rintro e w11 ⟨rfl, hb⟩; have n0_ := Aside0.mk (Kd.R_below (by (with_reducible repeat (first | apply Kd.R_alloc | apply Kd.R_drewN | apply Kd.R_drew)); exact HO264.out) hb); have n1_ := Aside0.mk (below_step (by repeat (first | (with_reducible first | exact HB.out | apply below_alloc | apply pw_below_drewN | apply below_drew1) | exact HB.out)) hb); clear HO264; clear HB; have HO264 := n0_; have HB := n1_; clear n0_ n1_; (try clear hb); (try clear hb2); (try clear hk); (try clear hi)))
    repeat (go_quiet (first | (go_at_call 10; (with_reducible refine (cofferlaw05_head.calls k  true _ A3.out).mono ?_); rintro e w7 ⟨rfl, hb⟩; have n0_ := Aside0.mk (below_step (by repeat (first | (with_reducible first | exact HB.out | apply below_alloc | apply pw_below_drewN | apply below_drew1) | exact HB.out)) hb); clear HB; have HB := n0_; clear n0_; (try clear hb); (try clear hb2); (try clear hk); (try clear hi)) | ((with_reducible refine gate_dst (N := 23) rfl ?_); (try (refine gate_guard (by rfl) ?_; dsimp only)); refine Kd.R_lit k52 _ 52 ?hg (N := 23) ?hd (xs := ([(⟨1, a0, 0⟩ : S52)] : List (S52))) (inner := [.int .i64 1, .string a0, .int .i64 0]) (ok := fun _ => True) (okp := fun _ => True) ?hr ?hp (fun _ hk => hk) trivial (Below.refl _ _) (Nat.le_refl _) (by simp) ?_; (case hd => rfl); (case hg => rfl); (case hr => first | (go_simp; done) | (go_simp; rfl)); (case hp => exact (Reps.c3 (show Kd.M k52 _ _ _ (⟨1, a0, 0⟩ : S52) [.int .i64 1, .string a0, .int .i64 0] from (k52_mkM _ _ _ (⟨1, a0, 0⟩ : S52) )) (Reps.none _ _))); intro v263 w8 ho9 hb hg_ hnew_; clear hg_ hnew_; (first | rw [← Ny262.out] at ho9 | (simp only [Int.reduceToNat] at ho9; rw [← Ny262.out] at ho9)); have n0_ := Aside0.mk (Kd.R_lower ho9 (below_size (by repeat (first | (with_reducible first | exact HB.out | apply below_alloc | apply pw_below_drewN | apply below_drew1) | exact HB.out)))); have n1_ := Aside0.mk (below_step (by repeat (first | (with_reducible first | exact HB.out | apply below_alloc | apply pw_below_drewN | apply below_drew1) | exact HB.out)) hb); clear HB; have HO264 := n0_; have HB := n1_; clear n0_ n1_; clear hb ho9; obtain ⟨Ao10, co10, eo10⟩ := Kd.R_slice HO264.out; subst eo10) | (go_at_call 15; (with_reducible refine (tuple_Write.calls _ _ y262 t265 t266 _ ?side1 ?side2 A5.out).mono ?_); (case side1 => repeat (first | exact (Kd.R_reads' HO264.out).2.2 | (with_reducible refine Kd.C_alloc ?_ _) | (with_reducible refine Kd.C_drewN ?_ _) | (with_reducible refine Kd.C_drew ?_))); (case side2 => exact (Kd.R_reads' HO264.out).2.1); rintro e w11 ⟨rfl, hb⟩; have n0_ := Aside0.mk (Kd.R_below (by (with_reducible repeat (first | apply Kd.R_alloc | apply Kd.R_drewN | apply Kd.R_drew)); exact HO264.out) hb); have n1_ := Aside0.mk (below_step (by repeat (first | (with_reducible first | exact HB.out | apply below_alloc | apply pw_below_drewN | apply below_drew1) | exact HB.out)) hb); clear HO264; clear HB; have HO264 := n0_; have HB := n1_; clear n0_ n1_; (try clear hb); (try clear hb2); (try clear hk); (try clear hi))); go_upto_if 32 with (first | (go_at_call 10; (with_reducible refine (cofferlaw05_head.calls k  true _ A3.out).mono ?_); rintro e w7 ⟨rfl, hb⟩; have n0_ := Aside0.mk (below_step (by repeat (first | (with_reducible first | exact HB.out | apply below_alloc | apply pw_below_drewN | apply below_drew1) | exact HB.out)) hb); clear HB; have HB := n0_; clear n0_; (try clear hb); (try clear hb2); (try clear hk); (try clear hi)) | ((with_reducible refine gate_dst (N := 23) rfl ?_); (try (refine gate_guard (by rfl) ?_; dsimp only)); refine Kd.R_lit k52 _ 52 ?hg (N := 23) ?hd (xs := ([(⟨1, a0, 0⟩ : S52)] : List (S52))) (inner := [.int .i64 1, .string a0, .int .i64 0]) (ok := fun _ => True) (okp := fun _ => True) ?hr ?hp (fun _ hk => hk) trivial (Below.refl _ _) (Nat.le_refl _) (by simp) ?_; (case hd => rfl); (case hg => rfl); (case hr => first | (go_simp; done) | (go_simp; rfl)); (case hp => exact (Reps.c3 (show Kd.M k52 _ _ _ (⟨1, a0, 0⟩ : S52) [.int .i64 1, .string a0, .int .i64 0] from (k52_mkM _ _ _ (⟨1, a0, 0⟩ : S52) )) (Reps.none _ _))); intro v263 w8 ho9 hb hg_ hnew_; clear hg_ hnew_; (first | rw [← Ny262.out] at ho9 | (simp only [Int.reduceToNat] at ho9; rw [← Ny262.out] at ho9)); have n0_ := Aside0.mk (Kd.R_lower ho9 (below_size (by repeat (first | (with_reducible first | exact HB.out | apply below_alloc | apply pw_below_drewN | apply below_drew1) | exact HB.out)))); have n1_ := Aside0.mk (below_step (by repeat (first | (with_reducible first | exact HB.out | apply below_alloc | apply pw_below_drewN | apply below_drew1) | exact HB.out)) hb); clear HB; have HO264 := n0_; have HB := n1_; clear n0_ n1_; clear hb ho9; obtain ⟨Ao10, co10, eo10⟩ := Kd.R_slice HO264.out; subst eo10) | (go_at_call 15; (with_reducible refine (tuple_Write.calls _ _ y262 t265 t266 _ ?side1 ?side2 A5.out).mono ?_); (case side1 => repeat (first | exact (Kd.R_reads' HO264.out).2.2 | (with_reducible refine Kd.C_alloc ?_ _) | (with_reducible refine Kd.C_drewN ?_ _) | (with_reducible refine Kd.C_drew ?_))); (case side2 => exact (Kd.R_reads' HO264.out).2.1); rintro e w11 ⟨rfl, hb⟩; have n0_ := Aside0.mk (Kd.R_below (by (with_reducible repeat (first | apply Kd.R_alloc | apply Kd.R_drewN | apply Kd.R_drew)); exact HO264.out) hb); have n1_ := Aside0.mk (below_step (by repeat (first | (with_reducible first | exact HB.out | apply below_alloc | apply pw_below_drewN | apply below_drew1) | exact HB.out)) hb); clear HO264; clear HB; have HO264 := n0_; have HB := n1_; clear n0_ n1_; (try clear hb); (try clear hb2); (try clear hk); (try clear hi))))
    (try simp only [Act.put, List.setIfInBounds_toArray, List.set_cons_zero, List.set_cons_succ])
    go_cut [7] (fun v7 wc => ∃ (kq : Nat) (x7_5 : Int), v7 = .int .i64 x7_5 ∧ Aside0 (cofferlaw05_TupleSizes.j0 kq a0 a1 t265 t266 x7_5 = some r) ∧ Aside0 (kq ≤ k) ∧ Aside0 (Below w.heap.size w wc))
    case first =>
      have H := HC6.out
      clear HC6
      by_cases c12 : a0.toList = ([] : List UInt8)
      · rw [if_pos c12] at H
        have c12b0 : (a0.toList == ([] : List UInt8)) = true := beq_iff_eq.mpr c12
        have c12e : a0.toList.isEmpty = true := List.isEmpty_iff.mpr c12
        have c12b1 : (a0.toList != ([] : List UInt8)) = false := bne_eq_false_iff_eq.mpr c12
        clear c12
        (first | rw [c12e] | rw [c12b0] | (simp only [i64_w, i32_w]; rw [c12b0]) | rw [c12b1] | skip)
        have H' := Aside0.mk H
        clear H
        go_wp2
        repeat (go_quiet (fail); try go_wp2)
        go_meet
        case rel => exact ⟨_, (1), (by first | rfl | (simp; done) | (simp [Go.Proofs.Ytbohpjbcjnapfaa.Z.bne_nil, Go.Proofs.Ytbohpjbcjnapfaa.Z.beq_nil]; done) | (simp [*]; done)), H', ⟨by first | omega | exact Nat.le_refl _⟩, ⟨by repeat (first | (with_reducible first | exact HB.out | apply below_alloc | apply pw_below_drewN | apply below_drew1) | exact HB.out)⟩⟩
      · rw [if_neg c12] at H
        have c12b0 : (a0.toList == ([] : List UInt8)) = false := beq_eq_false_iff_ne.mpr c12
        have c12e : a0.toList.isEmpty = false := Bool.eq_false_iff.mpr (fun hE_ => c12 (List.isEmpty_iff.mp hE_))
        have c12b1 : (a0.toList != ([] : List UInt8)) = true := bne_iff_ne.mpr c12
        (first | rw [c12e] | rw [c12b0] | (simp only [i64_w, i32_w]; rw [c12b0]) | rw [c12b1] | skip)
        have H' := Aside0.mk H
        clear H
        go_wp2
        repeat (go_quiet (fail); try go_wp2)
        go_meet
        case rel => exact ⟨_, (wrap64 (Int.tdiv (wrap64 ((a0.size : Int) + 7)) 8)), (by first | rfl | (simp; done) | (simp [Go.Proofs.Ytbohpjbcjnapfaa.Z.bne_nil, Go.Proofs.Ytbohpjbcjnapfaa.Z.beq_nil]; done) | (simp [*]; done)), H', ⟨by first | omega | exact Nat.le_refl _⟩, ⟨by repeat (first | (with_reducible first | exact HB.out | apply below_alloc | apply pw_below_drewN | apply below_drew1) | exact HB.out)⟩⟩
    case rest =>
      clear HC6
      try clear c1
      try clear p2
      try clear c3
      try clear c4
      try clear p6
      try clear c8
      try clear c12
      try clear c12b0
      try clear c12b1
      obtain ⟨kq, x7_5, rfl, HA, HJ5, HB⟩ := hcut
      cases kq with
      | zero => exact absurd HA.out (by simp [cofferlaw05_TupleSizes.j0])
      | succ kj5 =>
        have H := HA.out
        clear HA
        simp only [cofferlaw05_TupleSizes.j0] at H
        have HC13 := Aside0.mk H
        clear H
        go_upto_region 7 with (fail)
        repeat (go_quiet (fail); go_upto_region 7 with (fail))
        go_cut [47] (fun v47 wc => ∃ (kq : Nat) (x47_12 : Bool), v47 = .bool x47_12 ∧ Aside0 (cofferlaw05_TupleSizes.j1 kq a0 a1 t265 x7_5 x47_12 = some r) ∧ Aside0 (kq ≤ kj5) ∧ Aside0 (Below w.heap.size w wc))
        case first =>
          have H := HC13.out
          clear HC13
          by_cases c14 : t266 = 0
          · rw [if_pos c14] at H
            have c14b0 : (t266 == 0) = true := beq_iff_eq.mpr c14
            have c14b1 : (t266 != 0) = false := bne_eq_false_iff_eq.mpr c14
            clear c14
            (first | rw [c14b0] | (simp only [i64_w, i32_w]; rw [c14b0]) | rw [c14b1] | skip)
            by_cases c15 : (t265.size : Int) = (wrap64 (1 + (wrap64 (9 * x7_5))))
            · rw [if_pos c15] at H
              have c15b0 : ((t265.size : Int) == (wrap64 (1 + (wrap64 (9 * x7_5))))) = true := beq_iff_eq.mpr c15
              have c15b1 : ((t265.size : Int) != (wrap64 (1 + (wrap64 (9 * x7_5))))) = false := bne_eq_false_iff_eq.mpr c15
              clear c15
              by_cases c16 : 0 < (t265.size : Int)
              · rw [if_pos c16] at H
                have c16b0 : decide (0 < (t265.size : Int)) = true := decide_eq_true c16
                have c16b1 : decide (0 < t265.size) = true := decide_eq_true (by omega)
                clear c16
                have H' := Aside0.mk H
                clear H
                have p17 : 0 ≤ (0 : Int) := (by omega)
                have q17 : 0 < t265.size := (by have : (0 : Int) < (t265.size : Int) := of_decide_eq_true (by first | (with_reducible assumption) | assumption); omega)
                have hx17 : ∀ h : 0 < t265.size, ((t265[0]'h).toNat : Int) = bt t265 0 := bt_at t265 0
                clear p17
                have qi17 : (0 < (t265.size : Int)) = True := eq_true (of_decide_eq_true (by first | (with_reducible assumption) | assumption))
                replace q17 := eq_true q17
                go_wp2
                repeat (go_quiet (fail); try go_wp2)
                go_meet
                case rel => exact ⟨_, (((bt t265 0) != 1)), (by first | rfl | (simp; done) | (simp [Go.Proofs.Ytbohpjbcjnapfaa.Z.bne_nil, Go.Proofs.Ytbohpjbcjnapfaa.Z.beq_nil]; done) | (simp [*]; done)), H', ⟨by have := HJ5.out; first | omega | exact Nat.le_refl _⟩, ⟨by repeat (first | (with_reducible first | exact HB.out | apply below_alloc | apply pw_below_drewN | apply below_drew1) | exact HB.out)⟩⟩
              · rw [if_neg c16] at H
                exact absurd H (by simp)
            · rw [if_neg c15] at H
              have c15b0 : ((t265.size : Int) == (wrap64 (1 + (wrap64 (9 * x7_5))))) = false := beq_eq_false_iff_ne.mpr c15
              have c15b1 : ((t265.size : Int) != (wrap64 (1 + (wrap64 (9 * x7_5))))) = true := bne_iff_ne.mpr c15
              have H' := Aside0.mk H
              clear H
              go_wp2
              repeat (go_quiet (fail); try go_wp2)
              go_meet
              case rel => exact ⟨_, (true), (by first | rfl | (simp; done) | (simp [Go.Proofs.Ytbohpjbcjnapfaa.Z.bne_nil, Go.Proofs.Ytbohpjbcjnapfaa.Z.beq_nil]; done) | (simp [*]; done)), H', ⟨by have := HJ5.out; first | omega | exact Nat.le_refl _⟩, ⟨by repeat (first | (with_reducible first | exact HB.out | apply below_alloc | apply pw_below_drewN | apply below_drew1) | exact HB.out)⟩⟩
          · rw [if_neg c14] at H
            have c14b0 : (t266 == 0) = false := beq_eq_false_iff_ne.mpr c14
            have c14b1 : (t266 != 0) = true := bne_iff_ne.mpr c14
            (first | rw [c14b0] | (simp only [i64_w, i32_w]; rw [c14b0]) | rw [c14b1] | skip)
            have H' := Aside0.mk H
            clear H
            go_wp2
            repeat (go_quiet (fail); try go_wp2)
            go_meet
            case rel => exact ⟨_, (true), (by first | rfl | (simp; done) | (simp [Go.Proofs.Ytbohpjbcjnapfaa.Z.bne_nil, Go.Proofs.Ytbohpjbcjnapfaa.Z.beq_nil]; done) | (simp [*]; done)), H', ⟨by have := HJ5.out; first | omega | exact Nat.le_refl _⟩, ⟨by repeat (first | (with_reducible first | exact HB.out | apply below_alloc | apply pw_below_drewN | apply below_drew1) | exact HB.out)⟩⟩
        case rest =>
          clear HC13
          try clear c1
          try clear p1
          try clear q1
          try clear hx1
          try clear qi1
          try clear p2
          try clear c3
          try clear c4
          try clear p6
          try clear c8
          try clear c12
          try clear c12b0
          try clear c12b1
          try clear c14
          try clear c14b0
          try clear c14b1
          try clear c15
          try clear c15b0
          try clear c15b1
          try clear c16
          try clear c16b0
          try clear c16b1
          try clear p17
          try clear q17
          try clear hx17
          try clear qi17
          try clear p17
          try clear p2
          try clear p6
          try clear q17
          obtain ⟨kq, x47_12, rfl, HA, HJ12, HB⟩ := hcut
          cases kq with
          | zero => exact absurd HA.out (by simp [cofferlaw05_TupleSizes.j1])
          | succ kj12 =>
            have H := HA.out
            clear HA
            simp only [cofferlaw05_TupleSizes.j1] at H
            by_cases c18 : x47_12 = true
            · subst c18
              have H1 : (none) = some r := by rw [if_pos rfl] at H; exact H
              clear H
              have H := H1
              clear H1
              exact absurd H (by simp)
            · replace c18 := Bool.eq_false_iff.mpr c18
              subst c18
              have H1 : (cofferlaw05_TupleSizes.l0 kj12 a0 a1 t265 x7_5 0) = some r := by rw [if_neg (show ¬ (false = true) by decide)] at H; exact H
              clear H
              have H := H1
              clear H1
              have H' := Aside0.mk H
              clear H
              go_wp2
              repeat (go_quiet (fail); try go_wp2)
              go_loopg [8] kj12 (fun kq v8 w' => ∃ (x8_3 : Int), v8 = .int .i64 x8_3 ∧ Aside0 (cofferlaw05_TupleSizes.l0 kq a0 a1 t265 x7_5 x8_3 = some r) ∧ Aside0 (kq ≤ kj12) ∧ Aside0 (Below w.heap.size w w'))
              case atStart => exact ⟨(0), (by first | rfl | (simp; done) | (simp [Go.Proofs.Ytbohpjbcjnapfaa.Z.bne_nil, Go.Proofs.Ytbohpjbcjnapfaa.Z.beq_nil]; done) | (simp [*]; done)), H', ⟨Nat.le_refl _⟩, ⟨by repeat (first | (with_reducible first | exact HB.out | apply below_alloc | apply pw_below_drewN | apply below_drew1) | exact HB.out)⟩⟩
              case round =>
                clear H'
                try clear c1
                try clear p1
                try clear q1
                try clear hx1
                try clear qi1
                try clear p2
                try clear c3
                try clear c4
                try clear p6
                try clear c8
                try clear c12
                try clear c12b0
                try clear c12b1
                try clear c14
                try clear c14b0
                try clear c14b1
                try clear c15
                try clear c15b0
                try clear c15b1
                try clear c16
                try clear c16b0
                try clear c16b1
                try clear p17
                try clear q17
                try clear hx17
                try clear qi17
                try clear c18
                try clear p1
                try clear p17
                try clear p2
                try clear p6
                try clear q1
                try clear q17
                obtain ⟨x8_3, rfl, HA, HK3, HB⟩ := hrel
                cases gk with
                | zero => exact absurd HA.out (by simp [cofferlaw05_TupleSizes.l0])
                | succ k3 =>
                  have H := HA.out
                  clear HA
                  simp only [cofferlaw05_TupleSizes.l0] at H
                  by_cases c19 : x8_3 < x7_5
                  · rw [if_pos c19] at H
                    have c19b0 : decide (x8_3 < x7_5) = true := decide_eq_true c19
                    clear c19
                    have H' := Aside0.mk H
                    clear H
                    go_wp2
                    repeat (go_quiet (fail); try go_wp2)
                    go_loopg [9] k3 (fun kq v9 w' => ∃ (x9_4 : Int), v9 = .int .i64 x9_4 ∧ Aside0 (cofferlaw05_TupleSizes.l1 kq a0 a1 t265 x7_5 x8_3 x9_4 = some r) ∧ Aside0 (kq ≤ k3) ∧ Aside0 (Below w.heap.size w w'))
                    case atStart => exact ⟨(0), (by first | rfl | (simp; done) | (simp [Go.Proofs.Ytbohpjbcjnapfaa.Z.bne_nil, Go.Proofs.Ytbohpjbcjnapfaa.Z.beq_nil]; done) | (simp [*]; done)), H', ⟨Nat.le_refl _⟩, ⟨by repeat (first | (with_reducible first | exact HB.out | apply below_alloc | apply pw_below_drewN | apply below_drew1) | exact HB.out)⟩⟩
                    case round =>
                      clear H'
                      try clear c1
                      try clear p1
                      try clear q1
                      try clear hx1
                      try clear qi1
                      try clear p2
                      try clear c3
                      try clear c4
                      try clear p6
                      try clear c8
                      try clear c12
                      try clear c12b0
                      try clear c12b1
                      try clear c14
                      try clear c14b0
                      try clear c14b1
                      try clear c15
                      try clear c15b0
                      try clear c15b1
                      try clear c16
                      try clear c16b0
                      try clear c16b1
                      try clear p17
                      try clear q17
                      try clear hx17
                      try clear qi17
                      try clear c18
                      try clear c19
                      try clear c19b0
                      try clear p1
                      try clear p17
                      try clear p2
                      try clear p6
                      try clear q1
                      try clear q17
                      obtain ⟨x9_4, rfl, HA, HK4, HB⟩ := hrel
                      cases gk with
                      | zero => exact absurd HA.out (by simp [cofferlaw05_TupleSizes.l1])
                      | succ k4 =>
                        have H := HA.out
                        clear HA
                        simp only [cofferlaw05_TupleSizes.l1] at H
                        by_cases c20 : x9_4 < 8
                        · rw [if_pos c20] at H
                          have c20b0 : decide (x9_4 < 8) = true := decide_eq_true c20
                          clear c20
                          by_cases c21 : (wrap64 ((wrap64 (8 * x8_3)) + x9_4)) < (a0.size : Int)
                          · rw [if_pos c21] at H
                            have c21b0 : decide ((wrap64 ((wrap64 (8 * x8_3)) + x9_4)) < (a0.size : Int)) = true := decide_eq_true c21
                            clear c21
                            obtain ⟨ji22, hji22⟩ : ∃ j_ : Int, (wrap64 ((wrap64 (8 * x8_3)) + x9_4)) = j_ := ⟨_, rfl⟩
                            replace H : (if 0 ≤ (ji22) then (if 0 ≤ (wrap64 ((wrap64 (1 + (wrap64 (9 * x8_3)))) + x9_4)) then (if (wrap64 ((wrap64 (1 + (wrap64 (9 * x8_3)))) + x9_4)) < (t265.size : Int) then (if (bt t265 (wrap64 ((wrap64 (1 + (wrap64 (9 * x8_3)))) + x9_4))) = (bt a0 (ji22)) then (cofferlaw05_TupleSizes.l1 k4 a0 a1 t265 x7_5 x8_3 (wrap64 (x9_4 + 1))) else (none)) else (none)) else (none)) else (none)) = some r := by first | (rw [hji22] at H; exact H) | (simp only [hji22] at H ⊢; exact H)
                            (try rw [hji22] at c21b0)
                            have hji22w : (IntKind.i64.wrap ((wrap64 (8 * x8_3)) + x9_4)) = ji22 := (i64_w _).trans hji22
                            by_cases c23 : 0 ≤ (ji22)
                            · rw [if_pos c23] at H
                              have c23b0 : decide (0 ≤ (ji22)) = true := decide_eq_true c23
                              clear c23
                              obtain ⟨ji25, hji25⟩ : ∃ j_ : Int, (wrap64 ((wrap64 (1 + (wrap64 (9 * x8_3)))) + x9_4)) = j_ := ⟨_, rfl⟩
                              replace H : (if 0 ≤ (ji25) then (if (ji25) < (t265.size : Int) then (if (bt t265 (ji25)) = (bt a0 (ji22)) then (cofferlaw05_TupleSizes.l1 k4 a0 a1 t265 x7_5 x8_3 (wrap64 (x9_4 + 1))) else (none)) else (none)) else (none)) = some r := by first | (rw [hji25] at H; exact H) | (simp only [hji25] at H ⊢; exact H)
                              have hji25w : (IntKind.i64.wrap ((wrap64 (1 + (wrap64 (9 * x8_3)))) + x9_4)) = ji25 := (i64_w _).trans hji25
                              by_cases c26 : 0 ≤ (ji25)
                              · rw [if_pos c26] at H
                                have c26b0 : decide (0 ≤ (ji25)) = true := decide_eq_true c26
                                clear c26
                                by_cases c27 : (ji25) < (t265.size : Int)
                                · rw [if_pos c27] at H
                                  have c27b0 : decide ((ji25) < (t265.size : Int)) = true := decide_eq_true c27
                                  clear c27
                                  by_cases c29 : (bt t265 (ji25)) = (bt a0 (ji22))
                                  · rw [if_pos c29] at H
                                    have c29b0 : ((bt t265 (ji25)) == (bt a0 (ji22))) = true := beq_iff_eq.mpr c29
                                    have c29b1 : ((bt t265 (ji25)) != (bt a0 (ji22))) = false := bne_eq_false_iff_eq.mpr c29
                                    clear c29
                                    have H' := Aside0.mk H
                                    clear H
                                    have p24 : 0 ≤ ((ji22) : Int) := of_decide_eq_true (by first | (with_reducible assumption) | assumption)
                                    have q24 : (ji22) < (a0.size : Int) := of_decide_eq_true (by first | (with_reducible assumption) | assumption)
                                    have hx24 := bt_at a0 (ji22)
                                    replace p24 := eq_true p24
                                    replace q24 := eq_true q24
                                    have p28 : 0 ≤ ((ji25) : Int) := of_decide_eq_true (by first | (with_reducible assumption) | assumption)
                                    have q28 : (ji25) < (t265.size : Int) := of_decide_eq_true (by first | (with_reducible assumption) | assumption)
                                    have hx28 := bt_at t265 (ji25)
                                    replace p28 := eq_true p28
                                    replace q28 := eq_true q28
                                    go_wp2
                                    repeat (go_quiet (fail); try go_wp2)
                                    go_roundg k4
                                    case measure => have := HJ5.out; have := HJ12.out; have := HK3.out; have := HK4.out; omega
                                    case rel => exact ⟨(wrap64 (x9_4 + 1)), (by first | rfl | (simp; done) | (simp [Go.Proofs.Ytbohpjbcjnapfaa.Z.bne_nil, Go.Proofs.Ytbohpjbcjnapfaa.Z.beq_nil]; done) | (simp [*]; done)), H', ⟨by have := HJ5.out; have := HJ12.out; have := HK3.out; have := HK4.out; omega⟩, ⟨by repeat (first | (with_reducible first | exact HB.out | apply below_alloc | apply pw_below_drewN | apply below_drew1) | exact HB.out)⟩⟩
                                  · rw [if_neg c29] at H
                                    exact absurd H (by simp)
                                · rw [if_neg c27] at H
                                  exact absurd H (by simp)
                              · rw [if_neg c26] at H
                                exact absurd H (by simp)
                            · rw [if_neg c23] at H
                              exact absurd H (by simp)
                          · rw [if_neg c21] at H
                            have c21b0 : decide ((wrap64 ((wrap64 (8 * x8_3)) + x9_4)) < (a0.size : Int)) = false := decide_eq_false c21
                            clear c21
                            obtain ⟨ji30, hji30⟩ : ∃ j_ : Int, (wrap64 ((wrap64 (1 + (wrap64 (9 * x8_3)))) + x9_4)) = j_ := ⟨_, rfl⟩
                            replace H : (if 0 ≤ (ji30) then (if (ji30) < (t265.size : Int) then (if (bt t265 (ji30)) = 0 then (cofferlaw05_TupleSizes.l1 k4 a0 a1 t265 x7_5 x8_3 (wrap64 (x9_4 + 1))) else (none)) else (none)) else (none)) = some r := by first | (rw [hji30] at H; exact H) | (simp only [hji30] at H ⊢; exact H)
                            have hji30w : (IntKind.i64.wrap ((wrap64 (1 + (wrap64 (9 * x8_3)))) + x9_4)) = ji30 := (i64_w _).trans hji30
                            by_cases c31 : 0 ≤ (ji30)
                            · rw [if_pos c31] at H
                              have c31b0 : decide (0 ≤ (ji30)) = true := decide_eq_true c31
                              clear c31
                              by_cases c32 : (ji30) < (t265.size : Int)
                              · rw [if_pos c32] at H
                                have c32b0 : decide ((ji30) < (t265.size : Int)) = true := decide_eq_true c32
                                clear c32
                                by_cases c34 : (bt t265 (ji30)) = 0
                                · rw [if_pos c34] at H
                                  have c34b0 : ((bt t265 (ji30)) == 0) = true := beq_iff_eq.mpr c34
                                  have c34b1 : ((bt t265 (ji30)) != 0) = false := bne_eq_false_iff_eq.mpr c34
                                  clear c34
                                  have H' := Aside0.mk H
                                  clear H
                                  have p33 : 0 ≤ ((ji30) : Int) := of_decide_eq_true (by first | (with_reducible assumption) | assumption)
                                  have q33 : (ji30) < (t265.size : Int) := of_decide_eq_true (by first | (with_reducible assumption) | assumption)
                                  have hx33 := bt_at t265 (ji30)
                                  replace p33 := eq_true p33
                                  replace q33 := eq_true q33
                                  go_wp2
                                  repeat (go_quiet (fail); try go_wp2)
                                  go_roundg k4
                                  case measure => have := HJ5.out; have := HJ12.out; have := HK3.out; have := HK4.out; omega
                                  case rel => exact ⟨(wrap64 (x9_4 + 1)), (by first | rfl | (simp; done) | (simp [Go.Proofs.Ytbohpjbcjnapfaa.Z.bne_nil, Go.Proofs.Ytbohpjbcjnapfaa.Z.beq_nil]; done) | (simp [*]; done)), H', ⟨by have := HJ5.out; have := HJ12.out; have := HK3.out; have := HK4.out; omega⟩, ⟨by repeat (first | (with_reducible first | exact HB.out | apply below_alloc | apply pw_below_drewN | apply below_drew1) | exact HB.out)⟩⟩
                                · rw [if_neg c34] at H
                                  exact absurd H (by simp)
                              · rw [if_neg c32] at H
                                exact absurd H (by simp)
                            · rw [if_neg c31] at H
                              exact absurd H (by simp)
                        · rw [if_neg c20] at H
                          have c20b0 : decide (x9_4 < 8) = false := decide_eq_false c20
                          clear c20
                          by_cases c35 : x8_3 = (wrap64 (x7_5 - 1))
                          · rw [if_pos c35] at H
                            have c35b0 : (x8_3 == (wrap64 (x7_5 - 1))) = true := beq_iff_eq.mpr c35
                            have c35b1 : (x8_3 != (wrap64 (x7_5 - 1))) = false := bne_eq_false_iff_eq.mpr c35
                            clear c35
                            obtain ⟨ji36, hji36⟩ : ∃ j_ : Int, (wrap64 ((wrap64 (9 * x8_3)) + 9)) = j_ := ⟨_, rfl⟩
                            replace H : (if 0 ≤ (ji36) then (if (ji36) < (t265.size : Int) then (if (bt t265 (ji36)) = ((wrap64 ((a0.size : Int) - (wrap64 (8 * x8_3)))) % 256) then (cofferlaw05_TupleSizes.l0 k4 a0 a1 t265 x7_5 (wrap64 (x8_3 + 1))) else (none)) else (none)) else (none)) = some r := by first | (rw [hji36] at H; exact H) | (simp only [hji36] at H ⊢; exact H)
                            have hji36w : (IntKind.i64.wrap ((wrap64 (9 * x8_3)) + 9)) = ji36 := (i64_w _).trans hji36
                            by_cases c37 : 0 ≤ (ji36)
                            · rw [if_pos c37] at H
                              have c37b0 : decide (0 ≤ (ji36)) = true := decide_eq_true c37
                              clear c37
                              by_cases c38 : (ji36) < (t265.size : Int)
                              · rw [if_pos c38] at H
                                have c38b0 : decide ((ji36) < (t265.size : Int)) = true := decide_eq_true c38
                                clear c38
                                by_cases c40 : (bt t265 (ji36)) = ((wrap64 ((a0.size : Int) - (wrap64 (8 * x8_3)))) % 256)
                                · rw [if_pos c40] at H
                                  have c40b0 : ((bt t265 (ji36)) == ((wrap64 ((a0.size : Int) - (wrap64 (8 * x8_3)))) % 256)) = true := beq_iff_eq.mpr c40
                                  have c40b1 : ((bt t265 (ji36)) != ((wrap64 ((a0.size : Int) - (wrap64 (8 * x8_3)))) % 256)) = false := bne_eq_false_iff_eq.mpr c40
                                  clear c40
                                  have H' := Aside0.mk H
                                  clear H
                                  have p39 : 0 ≤ ((ji36) : Int) := of_decide_eq_true (by first | (with_reducible assumption) | assumption)
                                  have q39 : (ji36) < (t265.size : Int) := of_decide_eq_true (by first | (with_reducible assumption) | assumption)
                                  have hx39 := bt_at t265 (ji36)
                                  replace p39 := eq_true p39
                                  replace q39 := eq_true q39
                                  go_wp2
                                  repeat (go_quiet (fail); try go_wp2)
                                  go_roundg k4
                                  case measure => have := HJ5.out; have := HJ12.out; have := HK3.out; have := HK4.out; omega
                                  case rel => exact ⟨(wrap64 (x8_3 + 1)), (by first | rfl | (simp; done) | (simp [Go.Proofs.Ytbohpjbcjnapfaa.Z.bne_nil, Go.Proofs.Ytbohpjbcjnapfaa.Z.beq_nil]; done) | (simp [*]; done)), H', ⟨by have := HJ5.out; have := HJ12.out; have := HK3.out; have := HK4.out; omega⟩, ⟨by repeat (first | (with_reducible first | exact HB.out | apply below_alloc | apply pw_below_drewN | apply below_drew1) | exact HB.out)⟩⟩
                                · rw [if_neg c40] at H
                                  exact absurd H (by simp)
                              · rw [if_neg c38] at H
                                exact absurd H (by simp)
                            · rw [if_neg c37] at H
                              exact absurd H (by simp)
                          · rw [if_neg c35] at H
                            have c35b0 : (x8_3 == (wrap64 (x7_5 - 1))) = false := beq_eq_false_iff_ne.mpr c35
                            have c35b1 : (x8_3 != (wrap64 (x7_5 - 1))) = true := bne_iff_ne.mpr c35
                            obtain ⟨ji41, hji41⟩ : ∃ j_ : Int, (wrap64 ((wrap64 (9 * x8_3)) + 9)) = j_ := ⟨_, rfl⟩
                            replace H : (if 0 ≤ (ji41) then (if (ji41) < (t265.size : Int) then (if (bt t265 (ji41)) = 9 then (cofferlaw05_TupleSizes.l0 k4 a0 a1 t265 x7_5 (wrap64 (x8_3 + 1))) else (none)) else (none)) else (none)) = some r := by first | (rw [hji41] at H; exact H) | (simp only [hji41] at H ⊢; exact H)
                            have hji41w : (IntKind.i64.wrap ((wrap64 (9 * x8_3)) + 9)) = ji41 := (i64_w _).trans hji41
                            by_cases c42 : 0 ≤ (ji41)
                            · rw [if_pos c42] at H
                              have c42b0 : decide (0 ≤ (ji41)) = true := decide_eq_true c42
                              clear c42
                              by_cases c43 : (ji41) < (t265.size : Int)
                              · rw [if_pos c43] at H
                                have c43b0 : decide ((ji41) < (t265.size : Int)) = true := decide_eq_true c43
                                clear c43
                                by_cases c45 : (bt t265 (ji41)) = 9
                                · rw [if_pos c45] at H
                                  have c45b0 : ((bt t265 (ji41)) == 9) = true := beq_iff_eq.mpr c45
                                  have c45b1 : ((bt t265 (ji41)) != 9) = false := bne_eq_false_iff_eq.mpr c45
                                  clear c45
                                  have H' := Aside0.mk H
                                  clear H
                                  have p44 : 0 ≤ ((ji41) : Int) := of_decide_eq_true (by first | (with_reducible assumption) | assumption)
                                  have q44 : (ji41) < (t265.size : Int) := of_decide_eq_true (by first | (with_reducible assumption) | assumption)
                                  have hx44 := bt_at t265 (ji41)
                                  replace p44 := eq_true p44
                                  replace q44 := eq_true q44
                                  go_wp2
                                  repeat (go_quiet (fail); try go_wp2)
                                  go_roundg k4
                                  case measure => have := HJ5.out; have := HJ12.out; have := HK3.out; have := HK4.out; omega
                                  case rel => exact ⟨(wrap64 (x8_3 + 1)), (by first | rfl | (simp; done) | (simp [Go.Proofs.Ytbohpjbcjnapfaa.Z.bne_nil, Go.Proofs.Ytbohpjbcjnapfaa.Z.beq_nil]; done) | (simp [*]; done)), H', ⟨by have := HJ5.out; have := HJ12.out; have := HK3.out; have := HK4.out; omega⟩, ⟨by repeat (first | (with_reducible first | exact HB.out | apply below_alloc | apply pw_below_drewN | apply below_drew1) | exact HB.out)⟩⟩
                                · rw [if_neg c45] at H
                                  exact absurd H (by simp)
                              · rw [if_neg c43] at H
                                exact absurd H (by simp)
                            · rw [if_neg c42] at H
                              exact absurd H (by simp)
                  · rw [if_neg c19] at H
                    have c19b0 : decide (x8_3 < x7_5) = false := decide_eq_false c19
                    clear c19
                    obtain ⟨y267, hy267⟩ : ∃ y_ : List (S52), y_ = (([(⟨2, (⟨#[]⟩ : ByteArray), a1⟩ : S52)] : List (S52))) := ⟨_, rfl⟩
                    replace H : ((tuple_Write.f y267).bind fun bt270 => ((tuple_Write.f (([(⟨3, (⟨#[]⟩ : ByteArray), a1⟩ : S52)] : List (S52)))).bind fun bt275 => (if bt270.2 = 0 then (if bt275.2 = 0 then (if (bt270.1.size : Int) = 9 then (if (bt275.1.size : Int) = 9 then (if 0 < (bt270.1.size : Int) then (if (bt bt270.1 0) = 2 then (if 0 < (bt275.1.size : Int) then (cofferlaw05_TupleSizes.j4 k3 a1 bt270.1 bt275.1 ((bt bt275.1 0) != 3)) else (none)) else (cofferlaw05_TupleSizes.j4 k3 a1 bt270.1 bt275.1 true)) else (none)) else (cofferlaw05_TupleSizes.j4 k3 a1 bt270.1 bt275.1 true)) else (cofferlaw05_TupleSizes.j4 k3 a1 bt270.1 bt275.1 true)) else (cofferlaw05_TupleSizes.j4 k3 a1 bt270.1 bt275.1 true)) else (cofferlaw05_TupleSizes.j4 k3 a1 bt270.1 bt275.1 true)))) = some r := by first | (rw [hy267]; with_reducible exact H) | (have H2_ := (Option.bind_some _ _).symm.trans H; rw [hy267]; with_reducible exact H2_) | (have H2_ := (Option.bind_some _ _).symm.trans H; with_reducible exact H2_) | with_reducible exact H | (rw [hy267]; exact H) | exact H
                    have Ny267 := Aside0.mk hy267
                    clear hy267
                    replace H := Option.bind_eq_some_iff.mp H
                    obtain ⟨⟨t270, t271⟩, A460, H⟩ := H
                    replace H : ((tuple_Write.f (([(⟨3, (⟨#[]⟩ : ByteArray), a1⟩ : S52)] : List (S52)))).bind fun bt275 => (if t271 = 0 then (if bt275.2 = 0 then (if (t270.size : Int) = 9 then (if (bt275.1.size : Int) = 9 then (if 0 < (t270.size : Int) then (if (bt t270 0) = 2 then (if 0 < (bt275.1.size : Int) then (cofferlaw05_TupleSizes.j4 k3 a1 t270 bt275.1 ((bt bt275.1 0) != 3)) else (none)) else (cofferlaw05_TupleSizes.j4 k3 a1 t270 bt275.1 true)) else (none)) else (cofferlaw05_TupleSizes.j4 k3 a1 t270 bt275.1 true)) else (cofferlaw05_TupleSizes.j4 k3 a1 t270 bt275.1 true)) else (cofferlaw05_TupleSizes.j4 k3 a1 t270 bt275.1 true)) else (cofferlaw05_TupleSizes.j4 k3 a1 t270 bt275.1 true))) = some r := H
                    have A46 := Aside0.mk A460
                    clear A460
                    obtain ⟨y272, hy272⟩ : ∃ y_ : List (S52), y_ = (([(⟨3, (⟨#[]⟩ : ByteArray), a1⟩ : S52)] : List (S52))) := ⟨_, rfl⟩
                    replace H : ((tuple_Write.f y272).bind fun bt275 => (if t271 = 0 then (if bt275.2 = 0 then (if (t270.size : Int) = 9 then (if (bt275.1.size : Int) = 9 then (if 0 < (t270.size : Int) then (if (bt t270 0) = 2 then (if 0 < (bt275.1.size : Int) then (cofferlaw05_TupleSizes.j4 k3 a1 t270 bt275.1 ((bt bt275.1 0) != 3)) else (none)) else (cofferlaw05_TupleSizes.j4 k3 a1 t270 bt275.1 true)) else (none)) else (cofferlaw05_TupleSizes.j4 k3 a1 t270 bt275.1 true)) else (cofferlaw05_TupleSizes.j4 k3 a1 t270 bt275.1 true)) else (cofferlaw05_TupleSizes.j4 k3 a1 t270 bt275.1 true)) else (cofferlaw05_TupleSizes.j4 k3 a1 t270 bt275.1 true))) = some r := by first | (rw [hy272]; with_reducible exact H) | (have H2_ := (Option.bind_some _ _).symm.trans H; rw [hy272]; with_reducible exact H2_) | (have H2_ := (Option.bind_some _ _).symm.trans H; with_reducible exact H2_) | with_reducible exact H | (rw [hy272]; exact H) | exact H
                    have Ny272 := Aside0.mk hy272
                    clear hy272
                    replace H := Option.bind_eq_some_iff.mp H
                    obtain ⟨⟨t275, t276⟩, A470, H⟩ := H
                    replace H : (if t271 = 0 then (if t276 = 0 then (if (t270.size : Int) = 9 then (if (t275.size : Int) = 9 then (if 0 < (t270.size : Int) then (if (bt t270 0) = 2 then (if 0 < (t275.size : Int) then (cofferlaw05_TupleSizes.j4 k3 a1 t270 t275 ((bt t275 0) != 3)) else (none)) else (cofferlaw05_TupleSizes.j4 k3 a1 t270 t275 true)) else (none)) else (cofferlaw05_TupleSizes.j4 k3 a1 t270 t275 true)) else (cofferlaw05_TupleSizes.j4 k3 a1 t270 t275 true)) else (cofferlaw05_TupleSizes.j4 k3 a1 t270 t275 true)) else (cofferlaw05_TupleSizes.j4 k3 a1 t270 t275 true)) = some r := H
                    have A47 := Aside0.mk A470
                    clear A470
                    have HC48 := Aside0.mk H
                    clear H
                    go_upto_region 27 with (first | ((with_reducible refine gate_dst (N := 99) rfl ?_); (try (refine gate_guard (by rfl) ?_; dsimp only)); refine Kd.R_lit k52 _ 52 ?hg (N := 99) ?hd (xs := ([(⟨2, (⟨#[]⟩ : ByteArray), a1⟩ : S52)] : List (S52))) (inner := [.int .i64 2, .string (⟨#[]⟩ : ByteArray), .int .i64 a1]) (ok := fun _ => True) (okp := fun _ => True) ?hr ?hp (fun _ hk => hk) trivial (Below.refl _ _) (Nat.le_refl _) (by simp) ?_; (case hd => rfl); (case hg => rfl); (case hr => first | (go_simp; done) | (go_simp; rfl)); (case hp => exact (Reps.c3 (show Kd.M k52 _ _ _ (⟨2, (⟨#[]⟩ : ByteArray), a1⟩ : S52) [.int .i64 2, .string (⟨#[]⟩ : ByteArray), .int .i64 a1] from (k52_mkM _ _ _ (⟨2, (⟨#[]⟩ : ByteArray), a1⟩ : S52) )) (Reps.none _ _))); intro v268 w49 ho50 hb hg_ hnew_; clear hg_ hnew_; (first | rw [← Ny267.out] at ho50 | (simp only [Int.reduceToNat] at ho50; rw [← Ny267.out] at ho50)); have n0_ := Aside0.mk (Kd.R_lower ho50 (below_size (by repeat (first | (with_reducible first | exact HB.out | apply below_alloc | apply pw_below_drewN | apply below_drew1) | exact HB.out)))); have n1_ := Aside0.mk (below_step (by repeat (first | (with_reducible first | exact HB.out | apply below_alloc | apply pw_below_drewN | apply below_drew1) | exact HB.out)) hb); clear HB; have HO269 := n0_; have HB := n1_; clear n0_ n1_; clear hb ho50; obtain ⟨Ao51, co51, eo51⟩ := Kd.R_slice HO269.out; subst eo51) | (go_at_call 15; (with_reducible refine (tuple_Write.calls _ _ y267 t270 t271 _ ?side1 ?side2 A46.out).mono ?_); (case side1 => repeat (first | exact (Kd.R_reads' HO269.out).2.2 | (with_reducible refine Kd.C_alloc ?_ _) | (with_reducible refine Kd.C_drewN ?_ _) | (with_reducible refine Kd.C_drew ?_))); (case side2 => exact (Kd.R_reads' HO269.out).2.1); rintro e w52 ⟨rfl, hb⟩; have n0_ := Aside0.mk (Kd.R_below (by (with_reducible repeat (first | apply Kd.R_alloc | apply Kd.R_drewN | apply Kd.R_drew)); exact HO269.out) hb); have n1_ := Aside0.mk (below_step (by repeat (first | (with_reducible first | exact HB.out | apply below_alloc | apply pw_below_drewN | apply below_drew1) | exact HB.out)) hb); clear HO269; clear HB; have HO269 := n0_; have HB := n1_; clear n0_ n1_; (try clear hb); (try clear hb2); (try clear hk); (try clear hi)) | ((with_reducible refine gate_dst (N := 106) rfl ?_); (try (refine gate_guard (by rfl) ?_; dsimp only)); refine Kd.R_lit k52 _ 52 ?hg (N := 106) ?hd (xs := ([(⟨3, (⟨#[]⟩ : ByteArray), a1⟩ : S52)] : List (S52))) (inner := [.int .i64 3, .string (⟨#[]⟩ : ByteArray), .int .i64 a1]) (ok := fun _ => True) (okp := fun _ => True) ?hr ?hp (fun _ hk => hk) trivial (Below.refl _ _) (Nat.le_refl _) (by simp) ?_; (case hd => rfl); (case hg => rfl); (case hr => first | (go_simp; done) | (go_simp; rfl)); (case hp => exact (Reps.c3 (show Kd.M k52 _ _ _ (⟨3, (⟨#[]⟩ : ByteArray), a1⟩ : S52) [.int .i64 3, .string (⟨#[]⟩ : ByteArray), .int .i64 a1] from (k52_mkM _ _ _ (⟨3, (⟨#[]⟩ : ByteArray), a1⟩ : S52) )) (Reps.none _ _))); intro v273 w53 ho54 hb hg_ hnew_; clear hg_ hnew_; (first | rw [← Ny272.out] at ho54 | (simp only [Int.reduceToNat] at ho54; rw [← Ny272.out] at ho54)); have n0_ := Aside0.mk (Kd.R_elder' (by (with_reducible repeat (first | apply Kd.R_alloc | apply Kd.R_drewN | apply Kd.R_drew)); exact HO269.out) (Kd.R_base ho54) hb); have n1_ := Aside0.mk (Kd.R_lower (Kd.R_new' ho54 (Kd.R_lt (by (with_reducible repeat (first | apply Kd.R_alloc | apply Kd.R_drewN | apply Kd.R_drew)); exact HO269.out))) (below_size (by repeat (first | (with_reducible first | exact HB.out | apply below_alloc | apply pw_below_drewN | apply below_drew1) | exact HB.out)))); have n2_ := Aside0.mk (below_step (by repeat (first | (with_reducible first | exact HB.out | apply below_alloc | apply pw_below_drewN | apply below_drew1) | exact HB.out)) hb); clear HO269; clear HB; have HO269 := n0_; have HO274 := n1_; have HB := n2_; clear n0_ n1_ n2_; clear hb ho54; obtain ⟨Ao55, co55, eo55⟩ := Kd.R_slice HO274.out; subst eo55) | (go_at_call 15; (with_reducible refine (tuple_Write.calls _ _ y272 t275 t276 _ ?side1 ?side2 A47.out).mono ?_); (case side1 => repeat (first | exact (Kd.R_reads' HO274.out).2.2 | (with_reducible refine Kd.C_alloc ?_ _) | (with_reducible refine Kd.C_drewN ?_ _) | (with_reducible refine Kd.C_drew ?_))); (case side2 => exact (Kd.R_reads' HO274.out).2.1); rintro e w56 ⟨rfl, hb⟩; have n0_ := Aside0.mk (Kd.R_below (by (with_reducible repeat (first | apply Kd.R_alloc | apply Kd.R_drewN | apply Kd.R_drew)); exact HO269.out) hb); have n1_ := Aside0.mk (Kd.R_below (by (with_reducible repeat (first | apply Kd.R_alloc | apply Kd.R_drewN | apply Kd.R_drew)); exact HO274.out) hb); have n2_ := Aside0.mk (below_step (by repeat (first | (with_reducible first | exact HB.out | apply below_alloc | apply pw_below_drewN | apply below_drew1) | exact HB.out)) hb); clear HO269; clear HO274; clear HB; have HO269 := n0_; have HO274 := n1_; have HB := n2_; clear n0_ n1_ n2_; (try clear hb); (try clear hb2); (try clear hk); (try clear hi)))
                    repeat (go_quiet (first | ((with_reducible refine gate_dst (N := 99) rfl ?_); (try (refine gate_guard (by rfl) ?_; dsimp only)); refine Kd.R_lit k52 _ 52 ?hg (N := 99) ?hd (xs := ([(⟨2, (⟨#[]⟩ : ByteArray), a1⟩ : S52)] : List (S52))) (inner := [.int .i64 2, .string (⟨#[]⟩ : ByteArray), .int .i64 a1]) (ok := fun _ => True) (okp := fun _ => True) ?hr ?hp (fun _ hk => hk) trivial (Below.refl _ _) (Nat.le_refl _) (by simp) ?_; (case hd => rfl); (case hg => rfl); (case hr => first | (go_simp; done) | (go_simp; rfl)); (case hp => exact (Reps.c3 (show Kd.M k52 _ _ _ (⟨2, (⟨#[]⟩ : ByteArray), a1⟩ : S52) [.int .i64 2, .string (⟨#[]⟩ : ByteArray), .int .i64 a1] from (k52_mkM _ _ _ (⟨2, (⟨#[]⟩ : ByteArray), a1⟩ : S52) )) (Reps.none _ _))); intro v268 w49 ho50 hb hg_ hnew_; clear hg_ hnew_; (first | rw [← Ny267.out] at ho50 | (simp only [Int.reduceToNat] at ho50; rw [← Ny267.out] at ho50)); have n0_ := Aside0.mk (Kd.R_lower ho50 (below_size (by repeat (first | (with_reducible first | exact HB.out | apply below_alloc | apply pw_below_drewN | apply below_drew1) | exact HB.out)))); have n1_ := Aside0.mk (below_step (by repeat (first | (with_reducible first | exact HB.out | apply below_alloc | apply pw_below_drewN | apply below_drew1) | exact HB.out)) hb); clear HB; have HO269 := n0_; have HB := n1_; clear n0_ n1_; clear hb ho50; obtain ⟨Ao51, co51, eo51⟩ := Kd.R_slice HO269.out; subst eo51) | (go_at_call 15; (with_reducible refine (tuple_Write.calls _ _ y267 t270 t271 _ ?side1 ?side2 A46.out).mono ?_); (case side1 => repeat (first | exact (Kd.R_reads' HO269.out).2.2 | (with_reducible refine Kd.C_alloc ?_ _) | (with_reducible refine Kd.C_drewN ?_ _) | (with_reducible refine Kd.C_drew ?_))); (case side2 => exact (Kd.R_reads' HO269.out).2.1); rintro e w52 ⟨rfl, hb⟩; have n0_ := Aside0.mk (Kd.R_below (by (with_reducible repeat (first | apply Kd.R_alloc | apply Kd.R_drewN | apply Kd.R_drew)); exact HO269.out) hb); have n1_ := Aside0.mk (below_step (by repeat (first | (with_reducible first | exact HB.out | apply below_alloc | apply pw_below_drewN | apply below_drew1) | exact HB.out)) hb); clear HO269; clear HB; have HO269 := n0_; have HB := n1_; clear n0_ n1_; (try clear hb); (try clear hb2); (try clear hk); (try clear hi)) | ((with_reducible refine gate_dst (N := 106) rfl ?_); (try (refine gate_guard (by rfl) ?_; dsimp only)); refine Kd.R_lit k52 _ 52 ?hg (N := 106) ?hd (xs := ([(⟨3, (⟨#[]⟩ : ByteArray), a1⟩ : S52)] : List (S52))) (inner := [.int .i64 3, .string (⟨#[]⟩ : ByteArray), .int .i64 a1]) (ok := fun _ => True) (okp := fun _ => True) ?hr ?hp (fun _ hk => hk) trivial (Below.refl _ _) (Nat.le_refl _) (by simp) ?_; (case hd => rfl); (case hg => rfl); (case hr => first | (go_simp; done) | (go_simp; rfl)); (case hp => exact (Reps.c3 (show Kd.M k52 _ _ _ (⟨3, (⟨#[]⟩ : ByteArray), a1⟩ : S52) [.int .i64 3, .string (⟨#[]⟩ : ByteArray), .int .i64 a1] from (k52_mkM _ _ _ (⟨3, (⟨#[]⟩ : ByteArray), a1⟩ : S52) )) (Reps.none _ _))); intro v273 w53 ho54 hb hg_ hnew_; clear hg_ hnew_; (first | rw [← Ny272.out] at ho54 | (simp only [Int.reduceToNat] at ho54; rw [← Ny272.out] at ho54)); have n0_ := Aside0.mk (Kd.R_elder' (by (with_reducible repeat (first | apply Kd.R_alloc | apply Kd.R_drewN | apply Kd.R_drew)); exact HO269.out) (Kd.R_base ho54) hb); have n1_ := Aside0.mk (Kd.R_lower (Kd.R_new' ho54 (Kd.R_lt (by (with_reducible repeat (first | apply Kd.R_alloc | apply Kd.R_drewN | apply Kd.R_drew)); exact HO269.out))) (below_size (by repeat (first | (with_reducible first | exact HB.out | apply below_alloc | apply pw_below_drewN | apply below_drew1) | exact HB.out)))); have n2_ := Aside0.mk (below_step (by repeat (first | (with_reducible first | exact HB.out | apply below_alloc | apply pw_below_drewN | apply below_drew1) | exact HB.out)) hb); clear HO269; clear HB; have HO269 := n0_; have HO274 := n1_; have HB := n2_; clear n0_ n1_ n2_; clear hb ho54; obtain ⟨Ao55, co55, eo55⟩ := Kd.R_slice HO274.out; subst eo55) | (go_at_call 15; (with_reducible refine (tuple_Write.calls _ _ y272 t275 t276 _ ?side1 ?side2 A47.out).mono ?_); (case side1 => repeat (first | exact (Kd.R_reads' HO274.out).2.2 | (with_reducible refine Kd.C_alloc ?_ _) | (with_reducible refine Kd.C_drewN ?_ _) | (with_reducible refine Kd.C_drew ?_))); (case side2 => exact (Kd.R_reads' HO274.out).2.1); rintro e w56 ⟨rfl, hb⟩; have n0_ := Aside0.mk (Kd.R_below (by (with_reducible repeat (first | apply Kd.R_alloc | apply Kd.R_drewN | apply Kd.R_drew)); exact HO269.out) hb); have n1_ := Aside0.mk (Kd.R_below (by (with_reducible repeat (first | apply Kd.R_alloc | apply Kd.R_drewN | apply Kd.R_drew)); exact HO274.out) hb); have n2_ := Aside0.mk (below_step (by repeat (first | (with_reducible first | exact HB.out | apply below_alloc | apply pw_below_drewN | apply below_drew1) | exact HB.out)) hb); clear HO269; clear HO274; clear HB; have HO269 := n0_; have HO274 := n1_; have HB := n2_; clear n0_ n1_ n2_; (try clear hb); (try clear hb2); (try clear hk); (try clear hi))); go_upto_region 27 with (first | ((with_reducible refine gate_dst (N := 99) rfl ?_); (try (refine gate_guard (by rfl) ?_; dsimp only)); refine Kd.R_lit k52 _ 52 ?hg (N := 99) ?hd (xs := ([(⟨2, (⟨#[]⟩ : ByteArray), a1⟩ : S52)] : List (S52))) (inner := [.int .i64 2, .string (⟨#[]⟩ : ByteArray), .int .i64 a1]) (ok := fun _ => True) (okp := fun _ => True) ?hr ?hp (fun _ hk => hk) trivial (Below.refl _ _) (Nat.le_refl _) (by simp) ?_; (case hd => rfl); (case hg => rfl); (case hr => first | (go_simp; done) | (go_simp; rfl)); (case hp => exact (Reps.c3 (show Kd.M k52 _ _ _ (⟨2, (⟨#[]⟩ : ByteArray), a1⟩ : S52) [.int .i64 2, .string (⟨#[]⟩ : ByteArray), .int .i64 a1] from (k52_mkM _ _ _ (⟨2, (⟨#[]⟩ : ByteArray), a1⟩ : S52) )) (Reps.none _ _))); intro v268 w49 ho50 hb hg_ hnew_; clear hg_ hnew_; (first | rw [← Ny267.out] at ho50 | (simp only [Int.reduceToNat] at ho50; rw [← Ny267.out] at ho50)); have n0_ := Aside0.mk (Kd.R_lower ho50 (below_size (by repeat (first | (with_reducible first | exact HB.out | apply below_alloc | apply pw_below_drewN | apply below_drew1) | exact HB.out)))); have n1_ := Aside0.mk (below_step (by repeat (first | (with_reducible first | exact HB.out | apply below_alloc | apply pw_below_drewN | apply below_drew1) | exact HB.out)) hb); clear HB; have HO269 := n0_; have HB := n1_; clear n0_ n1_; clear hb ho50; obtain ⟨Ao51, co51, eo51⟩ := Kd.R_slice HO269.out; subst eo51) | (go_at_call 15; (with_reducible refine (tuple_Write.calls _ _ y267 t270 t271 _ ?side1 ?side2 A46.out).mono ?_); (case side1 => repeat (first | exact (Kd.R_reads' HO269.out).2.2 | (with_reducible refine Kd.C_alloc ?_ _) | (with_reducible refine Kd.C_drewN ?_ _) | (with_reducible refine Kd.C_drew ?_))); (case side2 => exact (Kd.R_reads' HO269.out).2.1); rintro e w52 ⟨rfl, hb⟩; have n0_ := Aside0.mk (Kd.R_below (by (with_reducible repeat (first | apply Kd.R_alloc | apply Kd.R_drewN | apply Kd.R_drew)); exact HO269.out) hb); have n1_ := Aside0.mk (below_step (by repeat (first | (with_reducible first | exact HB.out | apply below_alloc | apply pw_below_drewN | apply below_drew1) | exact HB.out)) hb); clear HO269; clear HB; have HO269 := n0_; have HB := n1_; clear n0_ n1_; (try clear hb); (try clear hb2); (try clear hk); (try clear hi)) | ((with_reducible refine gate_dst (N := 106) rfl ?_); (try (refine gate_guard (by rfl) ?_; dsimp only)); refine Kd.R_lit k52 _ 52 ?hg (N := 106) ?hd (xs := ([(⟨3, (⟨#[]⟩ : ByteArray), a1⟩ : S52)] : List (S52))) (inner := [.int .i64 3, .string (⟨#[]⟩ : ByteArray), .int .i64 a1]) (ok := fun _ => True) (okp := fun _ => True) ?hr ?hp (fun _ hk => hk) trivial (Below.refl _ _) (Nat.le_refl _) (by simp) ?_; (case hd => rfl); (case hg => rfl); (case hr => first | (go_simp; done) | (go_simp; rfl)); (case hp => exact (Reps.c3 (show Kd.M k52 _ _ _ (⟨3, (⟨#[]⟩ : ByteArray), a1⟩ : S52) [.int .i64 3, .string (⟨#[]⟩ : ByteArray), .int .i64 a1] from (k52_mkM _ _ _ (⟨3, (⟨#[]⟩ : ByteArray), a1⟩ : S52) )) (Reps.none _ _))); intro v273 w53 ho54 hb hg_ hnew_; clear hg_ hnew_; (first | rw [← Ny272.out] at ho54 | (simp only [Int.reduceToNat] at ho54; rw [← Ny272.out] at ho54)); have n0_ := Aside0.mk (Kd.R_elder' (by (with_reducible repeat (first | apply Kd.R_alloc | apply Kd.R_drewN | apply Kd.R_drew)); exact HO269.out) (Kd.R_base ho54) hb); have n1_ := Aside0.mk (Kd.R_lower (Kd.R_new' ho54 (Kd.R_lt (by (with_reducible repeat (first | apply Kd.R_alloc | apply Kd.R_drewN | apply Kd.R_drew)); exact HO269.out))) (below_size (by repeat (first | (with_reducible first | exact HB.out | apply below_alloc | apply pw_below_drewN | apply below_drew1) | exact HB.out)))); have n2_ := Aside0.mk (below_step (by repeat (first | (with_reducible first | exact HB.out | apply below_alloc | apply pw_below_drewN | apply below_drew1) | exact HB.out)) hb); clear HO269; clear HB; have HO269 := n0_; have HO274 := n1_; have HB := n2_; clear n0_ n1_ n2_; clear hb ho54; obtain ⟨Ao55, co55, eo55⟩ := Kd.R_slice HO274.out; subst eo55) | (go_at_call 15; (with_reducible refine (tuple_Write.calls _ _ y272 t275 t276 _ ?side1 ?side2 A47.out).mono ?_); (case side1 => repeat (first | exact (Kd.R_reads' HO274.out).2.2 | (with_reducible refine Kd.C_alloc ?_ _) | (with_reducible refine Kd.C_drewN ?_ _) | (with_reducible refine Kd.C_drew ?_))); (case side2 => exact (Kd.R_reads' HO274.out).2.1); rintro e w56 ⟨rfl, hb⟩; have n0_ := Aside0.mk (Kd.R_below (by (with_reducible repeat (first | apply Kd.R_alloc | apply Kd.R_drewN | apply Kd.R_drew)); exact HO269.out) hb); have n1_ := Aside0.mk (Kd.R_below (by (with_reducible repeat (first | apply Kd.R_alloc | apply Kd.R_drewN | apply Kd.R_drew)); exact HO274.out) hb); have n2_ := Aside0.mk (below_step (by repeat (first | (with_reducible first | exact HB.out | apply below_alloc | apply pw_below_drewN | apply below_drew1) | exact HB.out)) hb); clear HO269; clear HO274; clear HB; have HO269 := n0_; have HO274 := n1_; have HB := n2_; clear n0_ n1_ n2_; (try clear hb); (try clear hb2); (try clear hk); (try clear hi))))
                    (try simp only [Act.put, List.setIfInBounds_toArray, List.set_cons_zero, List.set_cons_succ])
                    go_cut [135] (fun v135 wc => ∃ (kq : Nat) (x135_47 : Bool), v135 = .bool x135_47 ∧ Aside0 (cofferlaw05_TupleSizes.j4 kq a1 t270 t275 x135_47 = some r) ∧ Aside0 (kq ≤ k3) ∧ Aside0 (Below w.heap.size w wc))
                    case first =>
                      have H := HC48.out
                      clear HC48
                      by_cases c57 : t271 = 0
                      · rw [if_pos c57] at H
                        have c57b0 : (t271 == 0) = true := beq_iff_eq.mpr c57
                        have c57b1 : (t271 != 0) = false := bne_eq_false_iff_eq.mpr c57
                        clear c57
                        (first | rw [c57b0] | (simp only [i64_w, i32_w]; rw [c57b0]) | rw [c57b1] | skip)
                        by_cases c58 : t276 = 0
                        · rw [if_pos c58] at H
                          have c58b0 : (t276 == 0) = true := beq_iff_eq.mpr c58
                          have c58b1 : (t276 != 0) = false := bne_eq_false_iff_eq.mpr c58
                          clear c58
                          by_cases c59 : (t270.size : Int) = 9
                          · rw [if_pos c59] at H
                            have c59b0 : ((t270.size : Int) == 9) = true := beq_iff_eq.mpr c59
                            have c59b1 : ((t270.size : Int) != 9) = false := bne_eq_false_iff_eq.mpr c59
                            clear c59
                            by_cases c60 : (t275.size : Int) = 9
                            · rw [if_pos c60] at H
                              have c60b0 : ((t275.size : Int) == 9) = true := beq_iff_eq.mpr c60
                              have c60b1 : ((t275.size : Int) != 9) = false := bne_eq_false_iff_eq.mpr c60
                              clear c60
                              by_cases c61 : 0 < (t270.size : Int)
                              · rw [if_pos c61] at H
                                have c61b0 : decide (0 < (t270.size : Int)) = true := decide_eq_true c61
                                have c61b1 : decide (0 < t270.size) = true := decide_eq_true (by omega)
                                clear c61
                                by_cases c63 : (bt t270 0) = 2
                                · rw [if_pos c63] at H
                                  have c63b0 : ((bt t270 0) == 2) = true := beq_iff_eq.mpr c63
                                  have c63b1 : ((bt t270 0) != 2) = false := bne_eq_false_iff_eq.mpr c63
                                  clear c63
                                  by_cases c64 : 0 < (t275.size : Int)
                                  · rw [if_pos c64] at H
                                    have c64b0 : decide (0 < (t275.size : Int)) = true := decide_eq_true c64
                                    have c64b1 : decide (0 < t275.size) = true := decide_eq_true (by omega)
                                    clear c64
                                    have H' := Aside0.mk H
                                    clear H
                                    have p62 : 0 ≤ (0 : Int) := (by omega)
                                    have q62 : 0 < t270.size := (by have : (0 : Int) < (t270.size : Int) := of_decide_eq_true (by first | (with_reducible assumption) | assumption); omega)
                                    have hx62 : ∀ h : 0 < t270.size, ((t270[0]'h).toNat : Int) = bt t270 0 := bt_at t270 0
                                    clear p62
                                    have qi62 : (0 < (t270.size : Int)) = True := eq_true (of_decide_eq_true (by first | (with_reducible assumption) | assumption))
                                    replace q62 := eq_true q62
                                    have p65 : 0 ≤ (0 : Int) := (by omega)
                                    have q65 : 0 < t275.size := (by have : (0 : Int) < (t275.size : Int) := of_decide_eq_true (by first | (with_reducible assumption) | assumption); omega)
                                    have hx65 : ∀ h : 0 < t275.size, ((t275[0]'h).toNat : Int) = bt t275 0 := bt_at t275 0
                                    clear p65
                                    have qi65 : (0 < (t275.size : Int)) = True := eq_true (of_decide_eq_true (by first | (with_reducible assumption) | assumption))
                                    replace q65 := eq_true q65
                                    go_wp2
                                    repeat (go_quiet (fail); try go_wp2)
                                    go_meet
                                    case rel => exact ⟨_, (((bt t275 0) != 3)), (by first | rfl | (simp; done) | (simp [Go.Proofs.Ytbohpjbcjnapfaa.Z.bne_nil, Go.Proofs.Ytbohpjbcjnapfaa.Z.beq_nil]; done) | (simp [*]; done)), H', ⟨by have := HJ5.out; have := HJ12.out; have := HK3.out; first | omega | exact Nat.le_refl _⟩, ⟨by repeat (first | (with_reducible first | exact HB.out | apply below_alloc | apply pw_below_drewN | apply below_drew1) | exact HB.out)⟩⟩
                                  · rw [if_neg c64] at H
                                    exact absurd H (by simp)
                                · rw [if_neg c63] at H
                                  have c63b0 : ((bt t270 0) == 2) = false := beq_eq_false_iff_ne.mpr c63
                                  have c63b1 : ((bt t270 0) != 2) = true := bne_iff_ne.mpr c63
                                  have H' := Aside0.mk H
                                  clear H
                                  have p62 : 0 ≤ (0 : Int) := (by omega)
                                  have q62 : 0 < t270.size := (by have : (0 : Int) < (t270.size : Int) := of_decide_eq_true (by first | (with_reducible assumption) | assumption); omega)
                                  have hx62 : ∀ h : 0 < t270.size, ((t270[0]'h).toNat : Int) = bt t270 0 := bt_at t270 0
                                  clear p62
                                  have qi62 : (0 < (t270.size : Int)) = True := eq_true (of_decide_eq_true (by first | (with_reducible assumption) | assumption))
                                  replace q62 := eq_true q62
                                  go_wp2
                                  repeat (go_quiet (fail); try go_wp2)
                                  go_meet
                                  case rel => exact ⟨_, (true), (by first | rfl | (simp; done) | (simp [Go.Proofs.Ytbohpjbcjnapfaa.Z.bne_nil, Go.Proofs.Ytbohpjbcjnapfaa.Z.beq_nil]; done) | (simp [*]; done)), H', ⟨by have := HJ5.out; have := HJ12.out; have := HK3.out; first | omega | exact Nat.le_refl _⟩, ⟨by repeat (first | (with_reducible first | exact HB.out | apply below_alloc | apply pw_below_drewN | apply below_drew1) | exact HB.out)⟩⟩
                              · rw [if_neg c61] at H
                                exact absurd H (by simp)
                            · rw [if_neg c60] at H
                              have c60b0 : ((t275.size : Int) == 9) = false := beq_eq_false_iff_ne.mpr c60
                              have c60b1 : ((t275.size : Int) != 9) = true := bne_iff_ne.mpr c60
                              have H' := Aside0.mk H
                              clear H
                              go_wp2
                              repeat (go_quiet (fail); try go_wp2)
                              go_meet
                              case rel => exact ⟨_, (true), (by first | rfl | (simp; done) | (simp [Go.Proofs.Ytbohpjbcjnapfaa.Z.bne_nil, Go.Proofs.Ytbohpjbcjnapfaa.Z.beq_nil]; done) | (simp [*]; done)), H', ⟨by have := HJ5.out; have := HJ12.out; have := HK3.out; first | omega | exact Nat.le_refl _⟩, ⟨by repeat (first | (with_reducible first | exact HB.out | apply below_alloc | apply pw_below_drewN | apply below_drew1) | exact HB.out)⟩⟩
                          · rw [if_neg c59] at H
                            have c59b0 : ((t270.size : Int) == 9) = false := beq_eq_false_iff_ne.mpr c59
                            have c59b1 : ((t270.size : Int) != 9) = true := bne_iff_ne.mpr c59
                            have H' := Aside0.mk H
                            clear H
                            go_wp2
                            repeat (go_quiet (fail); try go_wp2)
                            go_meet
                            case rel => exact ⟨_, (true), (by first | rfl | (simp; done) | (simp [Go.Proofs.Ytbohpjbcjnapfaa.Z.bne_nil, Go.Proofs.Ytbohpjbcjnapfaa.Z.beq_nil]; done) | (simp [*]; done)), H', ⟨by have := HJ5.out; have := HJ12.out; have := HK3.out; first | omega | exact Nat.le_refl _⟩, ⟨by repeat (first | (with_reducible first | exact HB.out | apply below_alloc | apply pw_below_drewN | apply below_drew1) | exact HB.out)⟩⟩
                        · rw [if_neg c58] at H
                          have c58b0 : (t276 == 0) = false := beq_eq_false_iff_ne.mpr c58
                          have c58b1 : (t276 != 0) = true := bne_iff_ne.mpr c58
                          have H' := Aside0.mk H
                          clear H
                          go_wp2
                          repeat (go_quiet (fail); try go_wp2)
                          go_meet
                          case rel => exact ⟨_, (true), (by first | rfl | (simp; done) | (simp [Go.Proofs.Ytbohpjbcjnapfaa.Z.bne_nil, Go.Proofs.Ytbohpjbcjnapfaa.Z.beq_nil]; done) | (simp [*]; done)), H', ⟨by have := HJ5.out; have := HJ12.out; have := HK3.out; first | omega | exact Nat.le_refl _⟩, ⟨by repeat (first | (with_reducible first | exact HB.out | apply below_alloc | apply pw_below_drewN | apply below_drew1) | exact HB.out)⟩⟩
                      · rw [if_neg c57] at H
                        have c57b0 : (t271 == 0) = false := beq_eq_false_iff_ne.mpr c57
                        have c57b1 : (t271 != 0) = true := bne_iff_ne.mpr c57
                        (first | rw [c57b0] | (simp only [i64_w, i32_w]; rw [c57b0]) | rw [c57b1] | skip)
                        have H' := Aside0.mk H
                        clear H
                        go_wp2
                        repeat (go_quiet (fail); try go_wp2)
                        go_meet
                        case rel => exact ⟨_, (true), (by first | rfl | (simp; done) | (simp [Go.Proofs.Ytbohpjbcjnapfaa.Z.bne_nil, Go.Proofs.Ytbohpjbcjnapfaa.Z.beq_nil]; done) | (simp [*]; done)), H', ⟨by have := HJ5.out; have := HJ12.out; have := HK3.out; first | omega | exact Nat.le_refl _⟩, ⟨by repeat (first | (with_reducible first | exact HB.out | apply below_alloc | apply pw_below_drewN | apply below_drew1) | exact HB.out)⟩⟩
                    case rest =>
                      clear HC48
                      try clear c1
                      try clear p1
                      try clear q1
                      try clear hx1
                      try clear qi1
                      try clear c2
                      try clear p2
                      try clear q2
                      try clear hx2
                      try clear c3
                      try clear p3
                      try clear q3
                      try clear hx3
                      try clear c4
                      try clear p4
                      try clear q4
                      try clear hx4
                      try clear c5
                      try clear c6
                      try clear p6
                      try clear q6
                      try clear hx6
                      try clear qi6
                      try clear c8
                      try clear c12
                      try clear c12b0
                      try clear c12b1
                      try clear c14
                      try clear c14b0
                      try clear c14b1
                      try clear c15
                      try clear c15b0
                      try clear c15b1
                      try clear c16
                      try clear c16b0
                      try clear c16b1
                      try clear p17
                      try clear q17
                      try clear hx17
                      try clear qi17
                      try clear c18
                      try clear c19
                      try clear c19b0
                      try clear c20
                      try clear c20b0
                      try clear c21
                      try clear c21b0
                      try clear c23
                      try clear c23b0
                      try clear p24
                      try clear q24
                      try clear hx24
                      try clear c26
                      try clear c26b0
                      try clear c27
                      try clear c27b0
                      try clear p28
                      try clear q28
                      try clear hx28
                      try clear c29
                      try clear c29b0
                      try clear c29b1
                      try clear c31
                      try clear c31b0
                      try clear c32
                      try clear c32b0
                      try clear p33
                      try clear q33
                      try clear hx33
                      try clear c34
                      try clear c34b0
                      try clear c34b1
                      try clear c35
                      try clear c35b0
                      try clear c35b1
                      try clear c37
                      try clear c37b0
                      try clear c38
                      try clear c38b0
                      try clear p39
                      try clear q39
                      try clear hx39
                      try clear c40
                      try clear c40b0
                      try clear c40b1
                      try clear c42
                      try clear c42b0
                      try clear c43
                      try clear c43b0
                      try clear p44
                      try clear q44
                      try clear hx44
                      try clear c45
                      try clear c45b0
                      try clear c45b1
                      try clear c57
                      try clear c57b0
                      try clear c57b1
                      try clear c58
                      try clear c58b0
                      try clear c58b1
                      try clear c59
                      try clear c59b0
                      try clear c59b1
                      try clear c60
                      try clear c60b0
                      try clear c60b1
                      try clear c61
                      try clear c61b0
                      try clear c61b1
                      try clear p62
                      try clear q62
                      try clear hx62
                      try clear qi62
                      try clear c63
                      try clear c63b0
                      try clear c63b1
                      try clear c64
                      try clear c64b0
                      try clear c64b1
                      try clear p64
                      try clear p65
                      try clear q65
                      try clear hx65
                      try clear qi65
                      try clear p1
                      try clear p17
                      try clear p2
                      try clear p24
                      try clear p28
                      try clear p33
                      try clear p39
                      try clear p44
                      try clear p6
                      try clear p62
                      try clear p65
                      try clear q1
                      try clear q17
                      try clear q24
                      try clear q28
                      try clear q33
                      try clear q39
                      try clear q44
                      try clear q62
                      try clear q65
                      obtain ⟨kq, x135_47, rfl, HA, HJ47, HB⟩ := hcut
                      cases kq with
                      | zero => exact absurd HA.out (by simp [cofferlaw05_TupleSizes.j4])
                      | succ kj47 =>
                        have H := HA.out
                        clear HA
                        simp only [cofferlaw05_TupleSizes.j4] at H
                        by_cases c66 : x135_47 = true
                        · subst c66
                          have H1 : (none) = some r := by rw [if_pos rfl] at H; exact H
                          clear H
                          have H := H1
                          clear H1
                          exact absurd H (by simp)
                        · replace c66 := Bool.eq_false_iff.mpr c66
                          subst c66
                          have H1 : (cofferlaw05_TupleSizes.l2 kj47 a1 t270 t275 0 1) = some r := by rw [if_neg (show ¬ (false = true) by decide)] at H; exact H
                          clear H
                          have H := H1
                          clear H1
                          have H' := Aside0.mk H
                          clear H
                          go_wp2
                          repeat (go_quiet (fail); try go_wp2)
                          go_loopg [16, 17] kj47 (fun kq v16 v17 w' => ∃ (x16_5 : Int) (x17_5 : Int), v16 = .int .u64 x16_5 ∧ v17 = .int .i64 x17_5 ∧ Aside0 (cofferlaw05_TupleSizes.l2 kq a1 t270 t275 x16_5 x17_5 = some r) ∧ Aside0 (kq ≤ kj47) ∧ Aside0 (Below w.heap.size w w'))
                          case atStart => exact ⟨(0), (1), (by first | rfl | (simp; done) | (simp [Go.Proofs.Ytbohpjbcjnapfaa.Z.bne_nil, Go.Proofs.Ytbohpjbcjnapfaa.Z.beq_nil]; done) | (simp [*]; done)), (by first | rfl | (simp; done) | (simp [Go.Proofs.Ytbohpjbcjnapfaa.Z.bne_nil, Go.Proofs.Ytbohpjbcjnapfaa.Z.beq_nil]; done) | (simp [*]; done)), H', ⟨Nat.le_refl _⟩, ⟨by repeat (first | (with_reducible first | exact HB.out | apply below_alloc | apply pw_below_drewN | apply below_drew1) | exact HB.out)⟩⟩
                          case round =>
                            clear H'
                            try clear c1
                            try clear p1
                            try clear q1
                            try clear hx1
                            try clear qi1
                            try clear c2
                            try clear p2
                            try clear q2
                            try clear hx2
                            try clear c3
                            try clear p3
                            try clear q3
                            try clear hx3
                            try clear c4
                            try clear p4
                            try clear q4
                            try clear hx4
                            try clear c5
                            try clear c6
                            try clear p6
                            try clear q6
                            try clear hx6
                            try clear qi6
                            try clear c8
                            try clear c12
                            try clear c12b0
                            try clear c12b1
                            try clear c14
                            try clear c14b0
                            try clear c14b1
                            try clear c15
                            try clear c15b0
                            try clear c15b1
                            try clear c16
                            try clear c16b0
                            try clear c16b1
                            try clear p17
                            try clear q17
                            try clear hx17
                            try clear qi17
                            try clear c18
                            try clear c19
                            try clear c19b0
                            try clear c20
                            try clear c20b0
                            try clear c21
                            try clear c21b0
                            try clear c23
                            try clear c23b0
                            try clear p24
                            try clear q24
                            try clear hx24
                            try clear c26
                            try clear c26b0
                            try clear c27
                            try clear c27b0
                            try clear p28
                            try clear q28
                            try clear hx28
                            try clear c29
                            try clear c29b0
                            try clear c29b1
                            try clear c31
                            try clear c31b0
                            try clear c32
                            try clear c32b0
                            try clear p33
                            try clear q33
                            try clear hx33
                            try clear c34
                            try clear c34b0
                            try clear c34b1
                            try clear c35
                            try clear c35b0
                            try clear c35b1
                            try clear c37
                            try clear c37b0
                            try clear c38
                            try clear c38b0
                            try clear p39
                            try clear q39
                            try clear hx39
                            try clear c40
                            try clear c40b0
                            try clear c40b1
                            try clear c42
                            try clear c42b0
                            try clear c43
                            try clear c43b0
                            try clear p44
                            try clear q44
                            try clear hx44
                            try clear c45
                            try clear c45b0
                            try clear c45b1
                            try clear c57
                            try clear c57b0
                            try clear c57b1
                            try clear c58
                            try clear c58b0
                            try clear c58b1
                            try clear c59
                            try clear c59b0
                            try clear c59b1
                            try clear c60
                            try clear c60b0
                            try clear c60b1
                            try clear c61
                            try clear c61b0
                            try clear c61b1
                            try clear p62
                            try clear q62
                            try clear hx62
                            try clear qi62
                            try clear c63
                            try clear c63b0
                            try clear c63b1
                            try clear c64
                            try clear c64b0
                            try clear c64b1
                            try clear p64
                            try clear p65
                            try clear q65
                            try clear hx65
                            try clear qi65
                            try clear c66
                            try clear p1
                            try clear p17
                            try clear p2
                            try clear p24
                            try clear p28
                            try clear p3
                            try clear p33
                            try clear p39
                            try clear p4
                            try clear p44
                            try clear p6
                            try clear p62
                            try clear p64
                            try clear p65
                            try clear q1
                            try clear q17
                            try clear q2
                            try clear q24
                            try clear q28
                            try clear q3
                            try clear q33
                            try clear q39
                            try clear q4
                            try clear q44
                            try clear q6
                            try clear q62
                            try clear q65
                            obtain ⟨x16_5, x17_5, rfl, rfl, HA, HK5, HB⟩ := hrel
                            cases gk with
                            | zero => exact absurd HA.out (by simp [cofferlaw05_TupleSizes.l2])
                            | succ k5 =>
                              have H := HA.out
                              clear HA
                              simp only [cofferlaw05_TupleSizes.l2] at H
                              by_cases c67 : x17_5 < 9
                              · rw [if_pos c67] at H
                                have c67b0 : decide (x17_5 < 9) = true := decide_eq_true c67
                                clear c67
                                by_cases c68 : 0 ≤ x17_5
                                · rw [if_pos c68] at H
                                  have c68b0 : decide (0 ≤ x17_5) = true := decide_eq_true c68
                                  clear c68
                                  by_cases c69 : x17_5 < (t270.size : Int)
                                  · rw [if_pos c69] at H
                                    have c69b0 : decide (x17_5 < (t270.size : Int)) = true := decide_eq_true c69
                                    clear c69
                                    by_cases c72 : x17_5 < (t275.size : Int)
                                    · rw [if_pos c72] at H
                                      have c72b0 : decide (x17_5 < (t275.size : Int)) = true := decide_eq_true c72
                                      clear c72
                                      by_cases c74 : (Go.bits .xor .u8 (bt t270 x17_5) (bt t275 x17_5)) = 255
                                      · rw [if_pos c74] at H
                                        have c74b0 : ((Go.bits .xor .u8 (bt t270 x17_5) (bt t275 x17_5)) == 255) = true := beq_iff_eq.mpr c74
                                        have c74b1 : ((Go.bits .xor .u8 (bt t270 x17_5) (bt t275 x17_5)) != 255) = false := bne_eq_false_iff_eq.mpr c74
                                        clear c74
                                        have H' := Aside0.mk H
                                        clear H
                                        have p70 : 0 ≤ (x17_5 : Int) := of_decide_eq_true (by first | (with_reducible assumption) | assumption)
                                        have q70 : x17_5 < (t270.size : Int) := of_decide_eq_true (by first | (with_reducible assumption) | assumption)
                                        have hx70 := bt_at t270 x17_5
                                        replace p70 := eq_true p70
                                        replace q70 := eq_true q70
                                        have p71 : 0 ≤ (x17_5 : Int) := of_decide_eq_true (by first | (with_reducible assumption) | assumption)
                                        have q71 : x17_5 < (t270.size : Int) := of_decide_eq_true (by first | (with_reducible assumption) | assumption)
                                        have hx71 := bt_at t270 x17_5
                                        replace p71 := eq_true p71
                                        replace q71 := eq_true q71
                                        have p73 : 0 ≤ (x17_5 : Int) := of_decide_eq_true (by first | (with_reducible assumption) | assumption)
                                        have q73 : x17_5 < (t275.size : Int) := of_decide_eq_true (by first | (with_reducible assumption) | assumption)
                                        have hx73 := bt_at t275 x17_5
                                        replace p73 := eq_true p73
                                        replace q73 := eq_true q73
                                        go_wp2
                                        repeat (go_quiet (fail); try go_wp2)
                                        go_roundg k5
                                        case measure => have := HJ5.out; have := HJ12.out; have := HK3.out; have := HJ47.out; have := HK5.out; omega
                                        case rel => exact ⟨(Go.bits .or .u64 (IntKind.u64.wrap (x16_5 * 256)) (IntKind.u64.wrap (bt t270 x17_5))), (wrap64 (x17_5 + 1)), (by first | rfl | (simp; done) | (simp [Go.Proofs.Ytbohpjbcjnapfaa.Z.bne_nil, Go.Proofs.Ytbohpjbcjnapfaa.Z.beq_nil]; done) | (simp [*]; done)), (by first | rfl | (simp; done) | (simp [Go.Proofs.Ytbohpjbcjnapfaa.Z.bne_nil, Go.Proofs.Ytbohpjbcjnapfaa.Z.beq_nil]; done) | (simp [*]; done)), H', ⟨by have := HJ5.out; have := HJ12.out; have := HK3.out; have := HJ47.out; have := HK5.out; omega⟩, ⟨by repeat (first | (with_reducible first | exact HB.out | apply below_alloc | apply pw_below_drewN | apply below_drew1) | exact HB.out)⟩⟩
                                      · rw [if_neg c74] at H
                                        exact absurd H (by simp)
                                    · rw [if_neg c72] at H
                                      exact absurd H (by simp)
                                  · rw [if_neg c69] at H
                                    exact absurd H (by simp)
                                · rw [if_neg c68] at H
                                  exact absurd H (by simp)
                              · rw [if_neg c67] at H
                                have c67b0 : decide (x17_5 < 9) = false := decide_eq_false c67
                                clear c67
                                obtain rfl := Option.some.inj H
                                go_wp2
                                repeat (go_quiet (fail); try go_wp2)
                                go_ret
                                exact ⟨by first | rfl | (simp [errW_none, errW_some] <;> rfl) | (simp [*, errW_none, errW_some] <;> rfl), by repeat (first | (with_reducible first | exact HB.out | apply below_alloc | apply pw_below_drewN | apply below_drew1) | exact HB.out)⟩
  · replace c4 := Bool.eq_false_iff.mpr c4
    subst c4
    have H1 : (none) = some r := by rw [if_neg (show ¬ (false = true) by decide)] at H; exact H
    clear H
    have H := H1
    clear H1
    exact absurd H (by simp)

/-- THE ONE PURE STATEMENT of cofferlaw05_TupleSizes: yours. -/
def cofferlaw05_TupleSizes.Pure : Prop := ∀ (a0 : ByteArray) (a1 : Int), a0.size ≤ 140737488351232 → (Lit.int .i64 a1).wf = true → ∃ k, cofferlaw05_TupleSizes.f k a0 a1 = some true
theorem cofferlaw05_TupleSizes.walk (P : cofferlaw05_TupleSizes.Pure) (a0 : ByteArray) (a1 : Int) (w : World) (w0 : a0.size ≤ 140737488351232) (w1 : (Lit.int .i64 a1).wf = true) :
    Calls Try.prog 8 #[.string a0, .int .i64 a1] w fun e w' => e = .returned (.bool true) ∧ Below w.heap.size w w' := by
  obtain ⟨k, h⟩ := P a0 a1 w0 w1
  refine (cofferlaw05_TupleSizes.calls k a0 a1 true w h).mono ?_
  rintro e w' ⟨rfl, hd⟩
  exact ⟨rfl, hd⟩

end Go.Proofs.Ytbohpjbcjnapfaa.X
