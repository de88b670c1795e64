-- By a program of this session (wip/xprint.py over the kit's print).
import Derived.Test.YtdhkcklgnnilfaaX0
import Derived.Test.YtdhkcklgnnilfaaX9
import Derived.Test.YtdhkcklgnnilfaaX17
import Derived.Test.YtdhkcklgnnilfaaX21
import Derived.Test.YtdhkcklgnnilfaaX23
namespace Go.Proofs.Ytdhkcklgnnilfaa.X
open Go.RowKit Go.Proofs.YtdhkcklgnnilfaaW.PrintWords Go.Proofs.YtdhkcklgnnilfaaW.PrintLast Go.Proofs.YtdhkcklgnnilfaaW.PrintMore
attribute [local go_sem] Go.Proofs.Ytdhkcklgnnilfaa.Z.leq_string Go.Proofs.Ytdhkcklgnnilfaa.Z.gtr_string Go.Proofs.Ytdhkcklgnnilfaa.Z.geq_string   -- for this text's walks alone
set_option linter.unusedVariables false
set_option linter.unusedSimpArgs false

/-! ### cofferlaw13_VersionApart: function 7 -/
mutual
def cofferlaw13_VersionApart.j0 : Nat → ByteArray → ByteArray → Bool → ByteArray → Int → Bool → ByteArray → List (S31) → ByteArray → Int → Bool → ByteArray → List (S31) → Option (Bool)
 | 0, _, _, _, _, _, _, _, _, _, _, _, _, _ => none
 | k + 1, x5, x7, x39, x459000, x459001, x459002, x459003, x459004, x460000, x460001, x460002, x460003, x460004 => if x39 = true then (some true) else ((version_Read.f k x5).bind fun bt465 => ((version_Read.f k x5).bind fun bt474 => ((version_Read.f k x7).bind fun bt483 => ((cofferref13_Same.f k bt465.1 bt465.2.1 bt465.2.2.1 bt465.2.2.2.1 bt465.2.2.2.2.1 x459000 x459001 x459002 x459003 x459004).bind fun t492 => (if t492 = true then ((cofferref13_Same.f k bt474.1 bt474.2.1 bt474.2.2.1 bt474.2.2.2.1 bt474.2.2.2.2.1 x459000 x459001 x459002 x459003 x459004).bind fun t493 => (if t493 = true then ((cofferref13_Same.f k bt483.1 bt483.2.1 bt483.2.2.1 bt483.2.2.2.1 bt483.2.2.2.2.1 x460000 x460001 x460002 x460003 x460004).bind fun t494 => (cofferlaw13_VersionApart.j1 k x5 (!t494) x459000 x459001 x459002 x459003 x459004 x460000 x460001 x460002 x460003 x460004 bt465.1 bt465.2.1 bt465.2.2.1 bt465.2.2.2.1 bt465.2.2.2.2.1 bt474.1 bt474.2.1 bt474.2.2.1 bt474.2.2.2.1 bt474.2.2.2.2.1 bt483.1 bt483.2.1 bt483.2.2.1 bt483.2.2.2.1 bt483.2.2.2.2.1)) else (cofferlaw13_VersionApart.j1 k x5 true x459000 x459001 x459002 x459003 x459004 x460000 x460001 x460002 x460003 x460004 bt465.1 bt465.2.1 bt465.2.2.1 bt465.2.2.2.1 bt465.2.2.2.2.1 bt474.1 bt474.2.1 bt474.2.2.1 bt474.2.2.2.1 bt474.2.2.2.2.1 bt483.1 bt483.2.1 bt483.2.2.1 bt483.2.2.2.1 bt483.2.2.2.2.1))) else (cofferlaw13_VersionApart.j1 k x5 true x459000 x459001 x459002 x459003 x459004 x460000 x460001 x460002 x460003 x460004 bt465.1 bt465.2.1 bt465.2.2.1 bt465.2.2.2.1 bt465.2.2.2.2.1 bt474.1 bt474.2.1 bt474.2.2.1 bt474.2.2.2.1 bt474.2.2.2.2.1 bt483.1 bt483.2.1 bt483.2.2.1 bt483.2.2.2.1 bt483.2.2.2.2.1))))))
def cofferlaw13_VersionApart.j1 : Nat → ByteArray → Bool → ByteArray → Int → Bool → ByteArray → List (S31) → ByteArray → Int → Bool → ByteArray → List (S31) → ByteArray → Int → Bool → ByteArray → List (S31) → ByteArray → Int → Bool → ByteArray → List (S31) → ByteArray → Int → Bool → ByteArray → List (S31) → Option (Bool)
 | 0, _, _, _, _, _, _, _, _, _, _, _, _, _, _, _, _, _, _, _, _, _, _, _, _, _, _, _ => none
 | k + 1, x5, x70, x459000, x459001, x459002, x459003, x459004, x460000, x460001, x460002, x460003, x460004, x474000, x474001, x474002, x474003, x474004, x483000, x483001, x483002, x483003, x483004, x492000, x492001, x492002, x492003, x492004 => if x70 = true then (none) else (cofferlaw13_VersionApart.l0 k x5 0 x459000 x459001 x459002 x459003 x459004 x460000 x460001 x460002 x460003 x460004 x474000 x474001 x474002 x474003 x474004 x483000 x483001 x483002 x483003 x483004 x492000 x492001 x492002 x492003 x492004)
def cofferlaw13_VersionApart.l0 : Nat → ByteArray → Int → ByteArray → Int → Bool → ByteArray → List (S31) → ByteArray → Int → Bool → ByteArray → List (S31) → ByteArray → Int → Bool → ByteArray → List (S31) → ByteArray → Int → Bool → ByteArray → List (S31) → ByteArray → Int → Bool → ByteArray → List (S31) → Option (Bool)
 | 0, _, _, _, _, _, _, _, _, _, _, _, _, _, _, _, _, _, _, _, _, _, _, _, _, _, _, _ => none
 | k + 1, x5, x15, x459000, x459001, x459002, x459003, x459004, x460000, x460001, x460002, x460003, x460004, x474000, x474001, x474002, x474003, x474004, x483000, x483001, x483002, x483003, x483004, x492000, x492001, x492002, x492003, x492004 => if x15 < (x474004.length : Int) then (if 0 ≤ x15 then (cofferlaw13_VersionApart.l0 k x5 (wrap64 (x15 + 1)) x459000 x459001 x459002 x459003 x459004 x460000 x460001 x460002 x460003 x460004 x474000 x474001 x474002 x474003 (x474004.set (x15 : Int).toNat (⟨(⟨#[120]⟩ : ByteArray), (⟨#[]⟩ : ByteArray)⟩ : S31)) x483000 x483001 x483002 x483003 x483004 x492000 x492001 x492002 x492003 x492004) else (none)) else (cofferlaw13_VersionApart.l1 k x5 0 x459000 x459001 x459002 x459003 x459004 x460000 x460001 x460002 x460003 x460004 x474000 x474001 x474002 x474003 x474004 x483000 x483001 x483002 x483003 x483004 x492000 x492001 x492002 x492003 x492004)
def cofferlaw13_VersionApart.l1 : Nat → ByteArray → Int → ByteArray → Int → Bool → ByteArray → List (S31) → ByteArray → Int → Bool → ByteArray → List (S31) → ByteArray → Int → Bool → ByteArray → List (S31) → ByteArray → Int → Bool → ByteArray → List (S31) → ByteArray → Int → Bool → ByteArray → List (S31) → Option (Bool)
 | 0, _, _, _, _, _, _, _, _, _, _, _, _, _, _, _, _, _, _, _, _, _, _, _, _, _, _, _ => none
 | k + 1, x5, x16, x459000, x459001, x459002, x459003, x459004, x460000, x460001, x460002, x460003, x460004, x474000, x474001, x474002, x474003, x474004, x483000, x483001, x483002, x483003, x483004, x492000, x492001, x492002, x492003, x492004 => if x16 < (x492004.length : Int) then (if 0 ≤ x16 then (cofferlaw13_VersionApart.l1 k x5 (wrap64 (x16 + 1)) x459000 x459001 x459002 x459003 x459004 x460000 x460001 x460002 x460003 x460004 x474000 x474001 x474002 x474003 x474004 x483000 x483001 x483002 x483003 x483004 x492000 x492001 x492002 x492003 (x492004.set (x16 : Int).toNat (⟨(⟨#[122]⟩ : ByteArray), (⟨#[]⟩ : ByteArray)⟩ : S31))) else (none)) else (cofferlaw13_VersionApart.l2 k x5 0 x459000 x459001 x459002 x459003 x459004 x460000 x460001 x460002 x460003 x460004 x474000 x474001 x474002 x474003 x474004 x483000 x483001 x483002 x483003 x483004 x492000 x492001 x492002 x492003 x492004)
def cofferlaw13_VersionApart.l2 : Nat → ByteArray → Int → ByteArray → Int → Bool → ByteArray → List (S31) → ByteArray → Int → Bool → ByteArray → List (S31) → ByteArray → Int → Bool → ByteArray → List (S31) → ByteArray → Int → Bool → ByteArray → List (S31) → ByteArray → Int → Bool → ByteArray → List (S31) → Option (Bool)
 | 0, _, _, _, _, _, _, _, _, _, _, _, _, _, _, _, _, _, _, _, _, _, _, _, _, _, _, _ => none
 | k + 1, x5, x17, x459000, x459001, x459002, x459003, x459004, x460000, x460001, x460002, x460003, x460004, x474000, x474001, x474002, x474003, x474004, x483000, x483001, x483002, x483003, x483004, x492000, x492001, x492002, x492003, x492004 => if x17 < 10 then (if x474004.length < 4398046511104 then (if x492004.length < 4398046511104 then (cofferlaw13_VersionApart.l2 k x5 (wrap64 (x17 + 1)) x459000 x459001 x459002 x459003 x459004 x460000 x460001 x460002 x460003 x460004 x474000 x474001 x474002 x474003 (x474004 ++ [(⟨(⟨#[120]⟩ : ByteArray), (⟨#[]⟩ : ByteArray)⟩ : S31)]) x483000 x483001 x483002 x483003 x483004 x492000 x492001 x492002 x492003 (x492004 ++ [(⟨(⟨#[122]⟩ : ByteArray), (⟨#[]⟩ : ByteArray)⟩ : S31)])) else (none)) else (none)) else (cofferlaw13_VersionApart.l3 k x5 0 x459000 x459001 x459002 x459003 x459004 x460000 x460001 x460002 x460003 x460004 x474000 x474001 x474002 x474003 x474004 x483000 x483001 x483002 x483003 x483004 x492000 x492001 x492002 x492003 x492004)
def cofferlaw13_VersionApart.l3 : Nat → ByteArray → Int → ByteArray → Int → Bool → ByteArray → List (S31) → ByteArray → Int → Bool → ByteArray → List (S31) → ByteArray → Int → Bool → ByteArray → List (S31) → ByteArray → Int → Bool → ByteArray → List (S31) → ByteArray → Int → Bool → ByteArray → List (S31) → Option (Bool)
 | 0, _, _, _, _, _, _, _, _, _, _, _, _, _, _, _, _, _, _, _, _, _, _, _, _, _, _, _ => none
 | k + 1, x5, x18, x459000, x459001, x459002, x459003, x459004, x460000, x460001, x460002, x460003, x460004, x474000, x474001, x474002, x474003, x474004, x483000, x483001, x483002, x483003, x483004, x492000, x492001, x492002, x492003, x492004 => if x18 < (x474004.length : Int) then (if 0 ≤ x18 then (if ((rd_T31 x474004 x18).f0).toList = ([120] : List UInt8) then (cofferlaw13_VersionApart.l3 k x5 (wrap64 (x18 + 1)) x459000 x459001 x459002 x459003 x459004 x460000 x460001 x460002 x460003 x460004 x474000 x474001 x474002 x474003 x474004 x483000 x483001 x483002 x483003 x483004 x492000 x492001 x492002 x492003 x492004) else (none)) else (none)) else (cofferlaw13_VersionApart.l4 k x5 0 x459000 x459001 x459002 x459003 x459004 x460000 x460001 x460002 x460003 x460004 x474000 x474001 x474002 x474003 x474004 x483000 x483001 x483002 x483003 x483004 x492000 x492001 x492002 x492003 x492004)
def cofferlaw13_VersionApart.l4 : Nat → ByteArray → Int → ByteArray → Int → Bool → ByteArray → List (S31) → ByteArray → Int → Bool → ByteArray → List (S31) → ByteArray → Int → Bool → ByteArray → List (S31) → ByteArray → Int → Bool → ByteArray → List (S31) → ByteArray → Int → Bool → ByteArray → List (S31) → Option (Bool)
 | 0, _, _, _, _, _, _, _, _, _, _, _, _, _, _, _, _, _, _, _, _, _, _, _, _, _, _, _ => none
 | k + 1, x5, x19, x459000, x459001, x459002, x459003, x459004, x460000, x460001, x460002, x460003, x460004, x474000, x474001, x474002, x474003, x474004, x483000, x483001, x483002, x483003, x483004, x492000, x492001, x492002, x492003, x492004 => if x19 < (x492004.length : Int) then (if 0 ≤ x19 then (if ((rd_T31 x492004 x19).f0).toList = ([122] : List UInt8) then (cofferlaw13_VersionApart.l4 k x5 (wrap64 (x19 + 1)) x459000 x459001 x459002 x459003 x459004 x460000 x460001 x460002 x460003 x460004 x474000 x474001 x474002 x474003 x474004 x483000 x483001 x483002 x483003 x483004 x492000 x492001 x492002 x492003 x492004) else (none)) else (none)) else ((version_Read.f k x5).bind fun bt505 => ((cofferref13_Same.f k x483000 x483001 x483002 x483003 x483004 x459000 x459001 x459002 x459003 x459004).bind fun t514 => (if t514 = true then ((cofferref13_Same.f k bt505.1 bt505.2.1 bt505.2.2.1 bt505.2.2.2.1 bt505.2.2.2.2.1 x459000 x459001 x459002 x459003 x459004).bind fun t515 => (if t515 = true then (if (x474004.length : Int) = (wrap64 ((x459004.length : Int) + 10)) then (some ((x492004.length : Int) == (wrap64 ((x460004.length : Int) + 10)))) else (none)) else (none))) else (none))))
end
def cofferlaw13_VersionApart.f (k : Nat) (a0_0 : ByteArray) (a0_1 : Int) (a0_2 : Bool) (a0_3 : ByteArray) (l0_4 : List (S31)) (a1_0 : ByteArray) (a1_1 : Int) (a1_2 : Bool) (a1_3 : ByteArray) (l1_4 : List (S31)) : Option (Bool) := (version_Write.f k a0_0 a0_1 a0_2 a0_3 l0_4).bind fun bt460 => ((version_Write.f k a1_0 a1_1 a1_2 a1_3 l1_4).bind fun bt462 => ((cofferlaw13_first.f k).bind fun t464 => (if t464 = true then (if bt460.2 = 0 then (cofferlaw13_VersionApart.j0 k bt460.1 bt462.1 (bt462.2 != 0) a0_0 a0_1 a0_2 a0_3 l0_4 a1_0 a1_1 a1_2 a1_3 l1_4) else (cofferlaw13_VersionApart.j0 k bt460.1 bt462.1 true a0_0 a0_1 a0_2 a0_3 l0_4 a1_0 a1_1 a1_2 a1_3 l1_4)) else (none))))
theorem cofferlaw13_VersionApart.mono_l : ∀ k, (∀ y0 y1 y2 y3 y4 y5 y6 y7 y8 y9 y10 y11 y12, LeO (cofferlaw13_VersionApart.j0 k y0 y1 y2 y3 y4 y5 y6 y7 y8 y9 y10 y11 y12) (cofferlaw13_VersionApart.j0 (k + 1) y0 y1 y2 y3 y4 y5 y6 y7 y8 y9 y10 y11 y12)) ∧ (∀ y0 y1 y2 y3 y4 y5 y6 y7 y8 y9 y10 y11 y12 y13 y14 y15 y16 y17 y18 y19 y20 y21 y22 y23 y24 y25 y26, LeO (cofferlaw13_VersionApart.j1 k y0 y1 y2 y3 y4 y5 y6 y7 y8 y9 y10 y11 y12 y13 y14 y15 y16 y17 y18 y19 y20 y21 y22 y23 y24 y25 y26) (cofferlaw13_VersionApart.j1 (k + 1) y0 y1 y2 y3 y4 y5 y6 y7 y8 y9 y10 y11 y12 y13 y14 y15 y16 y17 y18 y19 y20 y21 y22 y23 y24 y25 y26)) ∧ (∀ y0 y1 y2 y3 y4 y5 y6 y7 y8 y9 y10 y11 y12 y13 y14 y15 y16 y17 y18 y19 y20 y21 y22 y23 y24 y25 y26, LeO (cofferlaw13_VersionApart.l0 k y0 y1 y2 y3 y4 y5 y6 y7 y8 y9 y10 y11 y12 y13 y14 y15 y16 y17 y18 y19 y20 y21 y22 y23 y24 y25 y26) (cofferlaw13_VersionApart.l0 (k + 1) y0 y1 y2 y3 y4 y5 y6 y7 y8 y9 y10 y11 y12 y13 y14 y15 y16 y17 y18 y19 y20 y21 y22 y23 y24 y25 y26)) ∧ (∀ y0 y1 y2 y3 y4 y5 y6 y7 y8 y9 y10 y11 y12 y13 y14 y15 y16 y17 y18 y19 y20 y21 y22 y23 y24 y25 y26, LeO (cofferlaw13_VersionApart.l1 k y0 y1 y2 y3 y4 y5 y6 y7 y8 y9 y10 y11 y12 y13 y14 y15 y16 y17 y18 y19 y20 y21 y22 y23 y24 y25 y26) (cofferlaw13_VersionApart.l1 (k + 1) y0 y1 y2 y3 y4 y5 y6 y7 y8 y9 y10 y11 y12 y13 y14 y15 y16 y17 y18 y19 y20 y21 y22 y23 y24 y25 y26)) ∧ (∀ y0 y1 y2 y3 y4 y5 y6 y7 y8 y9 y10 y11 y12 y13 y14 y15 y16 y17 y18 y19 y20 y21 y22 y23 y24 y25 y26, LeO (cofferlaw13_VersionApart.l2 k y0 y1 y2 y3 y4 y5 y6 y7 y8 y9 y10 y11 y12 y13 y14 y15 y16 y17 y18 y19 y20 y21 y22 y23 y24 y25 y26) (cofferlaw13_VersionApart.l2 (k + 1) y0 y1 y2 y3 y4 y5 y6 y7 y8 y9 y10 y11 y12 y13 y14 y15 y16 y17 y18 y19 y20 y21 y22 y23 y24 y25 y26)) ∧ (∀ y0 y1 y2 y3 y4 y5 y6 y7 y8 y9 y10 y11 y12 y13 y14 y15 y16 y17 y18 y19 y20 y21 y22 y23 y24 y25 y26, LeO (cofferlaw13_VersionApart.l3 k y0 y1 y2 y3 y4 y5 y6 y7 y8 y9 y10 y11 y12 y13 y14 y15 y16 y17 y18 y19 y20 y21 y22 y23 y24 y25 y26) (cofferlaw13_VersionApart.l3 (k + 1) y0 y1 y2 y3 y4 y5 y6 y7 y8 y9 y10 y11 y12 y13 y14 y15 y16 y17 y18 y19 y20 y21 y22 y23 y24 y25 y26)) ∧ (∀ y0 y1 y2 y3 y4 y5 y6 y7 y8 y9 y10 y11 y12 y13 y14 y15 y16 y17 y18 y19 y20 y21 y22 y23 y24 y25 y26, LeO (cofferlaw13_VersionApart.l4 k y0 y1 y2 y3 y4 y5 y6 y7 y8 y9 y10 y11 y12 y13 y14 y15 y16 y17 y18 y19 y20 y21 y22 y23 y24 y25 y26) (cofferlaw13_VersionApart.l4 (k + 1) y0 y1 y2 y3 y4 y5 y6 y7 y8 y9 y10 y11 y12 y13 y14 y15 y16 y17 y18 y19 y20 y21 y22 y23 y24 y25 y26))
 | 0 => ⟨fun _ _ _ _ _ _ _ _ _ _ _ _ _ r h => by simp [cofferlaw13_VersionApart.j0] at h, fun _ _ _ _ _ _ _ _ _ _ _ _ _ _ _ _ _ _ _ _ _ _ _ _ _ _ _ r h => by simp [cofferlaw13_VersionApart.j1] at h, fun _ _ _ _ _ _ _ _ _ _ _ _ _ _ _ _ _ _ _ _ _ _ _ _ _ _ _ r h => by simp [cofferlaw13_VersionApart.l0] at h, fun _ _ _ _ _ _ _ _ _ _ _ _ _ _ _ _ _ _ _ _ _ _ _ _ _ _ _ r h => by simp [cofferlaw13_VersionApart.l1] at h, fun _ _ _ _ _ _ _ _ _ _ _ _ _ _ _ _ _ _ _ _ _ _ _ _ _ _ _ r h => by simp [cofferlaw13_VersionApart.l2] at h, fun _ _ _ _ _ _ _ _ _ _ _ _ _ _ _ _ _ _ _ _ _ _ _ _ _ _ _ r h => by simp [cofferlaw13_VersionApart.l3] at h, fun _ _ _ _ _ _ _ _ _ _ _ _ _ _ _ _ _ _ _ _ _ _ _ _ _ _ _ r h => by simp [cofferlaw13_VersionApart.l4] at h⟩
 | k + 1 => by
  obtain ⟨ih0, ih1, ih2, ih3, ih4, ih5, ih6⟩ := cofferlaw13_VersionApart.mono_l k
  refine ⟨?_, ?_, ?_, ?_, ?_, ?_, ?_⟩
  ·intro y0 y1 y2 y3 y4 y5 y6 y7 y8 y9 y10 y11 y12
   unfold cofferlaw13_VersionApart.j0
   repeat' first
   | (with_reducible exact ih0 _ _ _ _ _ _ _ _ _ _ _ _ _)
   | (with_reducible exact ih1 _ _ _ _ _ _ _ _ _ _ _ _ _ _ _ _ _ _ _ _ _ _ _ _ _ _ _)
   | (with_reducible exact ih2 _ _ _ _ _ _ _ _ _ _ _ _ _ _ _ _ _ _ _ _ _ _ _ _ _ _ _)
   | (with_reducible exact ih3 _ _ _ _ _ _ _ _ _ _ _ _ _ _ _ _ _ _ _ _ _ _ _ _ _ _ _)
   | (with_reducible exact ih4 _ _ _ _ _ _ _ _ _ _ _ _ _ _ _ _ _ _ _ _ _ _ _ _ _ _ _)
   | (with_reducible exact ih5 _ _ _ _ _ _ _ _ _ _ _ _ _ _ _ _ _ _ _ _ _ _ _ _ _ _ _)
   | (with_reducible exact ih6 _ _ _ _ _ _ _ _ _ _ _ _ _ _ _ _ _ _ _ _ _ _ _ _ _ _ _)
   | (with_reducible exact cofferlaw13_first.mono _)
   | (with_reducible exact cofferref13_Same.mono _ _ _ _ _ _ _ _ _ _ _)
   | (with_reducible exact version_Read.mono _ _)
   | (with_reducible exact version_Write.mono _ _ _ _ _ _)
   | (with_reducible exact LeO.refl _)
   | (with_reducible exact LeO.none _)
   | (with_reducible refine LeO.ite ?_ ?_)
   | (with_reducible refine LeO.bind ?_ (fun _ => ?_))
   | exact ih0 _ _ _ _ _ _ _ _ _ _ _ _ _
   | exact ih1 _ _ _ _ _ _ _ _ _ _ _ _ _ _ _ _ _ _ _ _ _ _ _ _ _ _ _
   | exact ih2 _ _ _ _ _ _ _ _ _ _ _ _ _ _ _ _ _ _ _ _ _ _ _ _ _ _ _
   | exact ih3 _ _ _ _ _ _ _ _ _ _ _ _ _ _ _ _ _ _ _ _ _ _ _ _ _ _ _
   | exact ih4 _ _ _ _ _ _ _ _ _ _ _ _ _ _ _ _ _ _ _ _ _ _ _ _ _ _ _
   | exact ih5 _ _ _ _ _ _ _ _ _ _ _ _ _ _ _ _ _ _ _ _ _ _ _ _ _ _ _
   | exact ih6 _ _ _ _ _ _ _ _ _ _ _ _ _ _ _ _ _ _ _ _ _ _ _ _ _ _ _
   | exact cofferlaw13_first.mono _
   | exact cofferref13_Same.mono _ _ _ _ _ _ _ _ _ _ _
   | exact version_Read.mono _ _
   | exact version_Write.mono _ _ _ _ _ _
   | exact LeO.none _
   | refine LeO.ite ?_ ?_
   | refine LeO.bind ?_ (fun _ => ?_)
  ·intro y0 y1 y2 y3 y4 y5 y6 y7 y8 y9 y10 y11 y12 y13 y14 y15 y16 y17 y18 y19 y20 y21 y22 y23 y24 y25 y26
   unfold cofferlaw13_VersionApart.j1
   repeat' first
   | (with_reducible exact ih0 _ _ _ _ _ _ _ _ _ _ _ _ _)
   | (with_reducible exact ih1 _ _ _ _ _ _ _ _ _ _ _ _ _ _ _ _ _ _ _ _ _ _ _ _ _ _ _)
   | (with_reducible exact ih2 _ _ _ _ _ _ _ _ _ _ _ _ _ _ _ _ _ _ _ _ _ _ _ _ _ _ _)
   | (with_reducible exact ih3 _ _ _ _ _ _ _ _ _ _ _ _ _ _ _ _ _ _ _ _ _ _ _ _ _ _ _)
   | (with_reducible exact ih4 _ _ _ _ _ _ _ _ _ _ _ _ _ _ _ _ _ _ _ _ _ _ _ _ _ _ _)
   | (with_reducible exact ih5 _ _ _ _ _ _ _ _ _ _ _ _ _ _ _ _ _ _ _ _ _ _ _ _ _ _ _)
   | (with_reducible exact ih6 _ _ _ _ _ _ _ _ _ _ _ _ _ _ _ _ _ _ _ _ _ _ _ _ _ _ _)
   | (with_reducible exact cofferlaw13_first.mono _)
   | (with_reducible exact cofferref13_Same.mono _ _ _ _ _ _ _ _ _ _ _)
   | (with_reducible exact version_Read.mono _ _)
   | (with_reducible exact version_Write.mono _ _ _ _ _ _)
   | (with_reducible exact LeO.refl _)
   | (with_reducible exact LeO.none _)
   | (with_reducible refine LeO.ite ?_ ?_)
   | (with_reducible refine LeO.bind ?_ (fun _ => ?_))
   | exact ih0 _ _ _ _ _ _ _ _ _ _ _ _ _
   | exact ih1 _ _ _ _ _ _ _ _ _ _ _ _ _ _ _ _ _ _ _ _ _ _ _ _ _ _ _
   | exact ih2 _ _ _ _ _ _ _ _ _ _ _ _ _ _ _ _ _ _ _ _ _ _ _ _ _ _ _
   | exact ih3 _ _ _ _ _ _ _ _ _ _ _ _ _ _ _ _ _ _ _ _ _ _ _ _ _ _ _
   | exact ih4 _ _ _ _ _ _ _ _ _ _ _ _ _ _ _ _ _ _ _ _ _ _ _ _ _ _ _
   | exact ih5 _ _ _ _ _ _ _ _ _ _ _ _ _ _ _ _ _ _ _ _ _ _ _ _ _ _ _
   | exact ih6 _ _ _ _ _ _ _ _ _ _ _ _ _ _ _ _ _ _ _ _ _ _ _ _ _ _ _
   | exact cofferlaw13_first.mono _
   | exact cofferref13_Same.mono _ _ _ _ _ _ _ _ _ _ _
   | exact version_Read.mono _ _
   | exact version_Write.mono _ _ _ _ _ _
   | exact LeO.none _
   | refine LeO.ite ?_ ?_
   | refine LeO.bind ?_ (fun _ => ?_)
  ·intro y0 y1 y2 y3 y4 y5 y6 y7 y8 y9 y10 y11 y12 y13 y14 y15 y16 y17 y18 y19 y20 y21 y22 y23 y24 y25 y26
   unfold cofferlaw13_VersionApart.l0
   repeat' first
   | (with_reducible exact ih0 _ _ _ _ _ _ _ _ _ _ _ _ _)
   | (with_reducible exact ih1 _ _ _ _ _ _ _ _ _ _ _ _ _ _ _ _ _ _ _ _ _ _ _ _ _ _ _)
   | (with_reducible exact ih2 _ _ _ _ _ _ _ _ _ _ _ _ _ _ _ _ _ _ _ _ _ _ _ _ _ _ _)
   | (with_reducible exact ih3 _ _ _ _ _ _ _ _ _ _ _ _ _ _ _ _ _ _ _ _ _ _ _ _ _ _ _)
   | (with_reducible exact ih4 _ _ _ _ _ _ _ _ _ _ _ _ _ _ _ _ _ _ _ _ _ _ _ _ _ _ _)
   | (with_reducible exact ih5 _ _ _ _ _ _ _ _ _ _ _ _ _ _ _ _ _ _ _ _ _ _ _ _ _ _ _)
   | (with_reducible exact ih6 _ _ _ _ _ _ _ _ _ _ _ _ _ _ _ _ _ _ _ _ _ _ _ _ _ _ _)
   | (with_reducible exact cofferlaw13_first.mono _)
   | (with_reducible exact cofferref13_Same.mono _ _ _ _ _ _ _ _ _ _ _)
   | (with_reducible exact version_Read.mono _ _)
   | (with_reducible exact version_Write.mono _ _ _ _ _ _)
   | (with_reducible exact LeO.refl _)
   | (with_reducible exact LeO.none _)
   | (with_reducible refine LeO.ite ?_ ?_)
   | (with_reducible refine LeO.bind ?_ (fun _ => ?_))
   | exact ih0 _ _ _ _ _ _ _ _ _ _ _ _ _
   | exact ih1 _ _ _ _ _ _ _ _ _ _ _ _ _ _ _ _ _ _ _ _ _ _ _ _ _ _ _
   | exact ih2 _ _ _ _ _ _ _ _ _ _ _ _ _ _ _ _ _ _ _ _ _ _ _ _ _ _ _
   | exact ih3 _ _ _ _ _ _ _ _ _ _ _ _ _ _ _ _ _ _ _ _ _ _ _ _ _ _ _
   | exact ih4 _ _ _ _ _ _ _ _ _ _ _ _ _ _ _ _ _ _ _ _ _ _ _ _ _ _ _
   | exact ih5 _ _ _ _ _ _ _ _ _ _ _ _ _ _ _ _ _ _ _ _ _ _ _ _ _ _ _
   | exact ih6 _ _ _ _ _ _ _ _ _ _ _ _ _ _ _ _ _ _ _ _ _ _ _ _ _ _ _
   | exact cofferlaw13_first.mono _
   | exact cofferref13_Same.mono _ _ _ _ _ _ _ _ _ _ _
   | exact version_Read.mono _ _
   | exact version_Write.mono _ _ _ _ _ _
   | exact LeO.none _
   | refine LeO.ite ?_ ?_
   | refine LeO.bind ?_ (fun _ => ?_)
  ·intro y0 y1 y2 y3 y4 y5 y6 y7 y8 y9 y10 y11 y12 y13 y14 y15 y16 y17 y18 y19 y20 y21 y22 y23 y24 y25 y26
   unfold cofferlaw13_VersionApart.l1
   repeat' first
   | (with_reducible exact ih0 _ _ _ _ _ _ _ _ _ _ _ _ _)
   | (with_reducible exact ih1 _ _ _ _ _ _ _ _ _ _ _ _ _ _ _ _ _ _ _ _ _ _ _ _ _ _ _)
   | (with_reducible exact ih2 _ _ _ _ _ _ _ _ _ _ _ _ _ _ _ _ _ _ _ _ _ _ _ _ _ _ _)
   | (with_reducible exact ih3 _ _ _ _ _ _ _ _ _ _ _ _ _ _ _ _ _ _ _ _ _ _ _ _ _ _ _)
   | (with_reducible exact ih4 _ _ _ _ _ _ _ _ _ _ _ _ _ _ _ _ _ _ _ _ _ _ _ _ _ _ _)
   | (with_reducible exact ih5 _ _ _ _ _ _ _ _ _ _ _ _ _ _ _ _ _ _ _ _ _ _ _ _ _ _ _)
   | (with_reducible exact ih6 _ _ _ _ _ _ _ _ _ _ _ _ _ _ _ _ _ _ _ _ _ _ _ _ _ _ _)
   | (with_reducible exact cofferlaw13_first.mono _)
   | (with_reducible exact cofferref13_Same.mono _ _ _ _ _ _ _ _ _ _ _)
   | (with_reducible exact version_Read.mono _ _)
   | (with_reducible exact version_Write.mono _ _ _ _ _ _)
   | (with_reducible exact LeO.refl _)
   | (with_reducible exact LeO.none _)
   | (with_reducible refine LeO.ite ?_ ?_)
   | (with_reducible refine LeO.bind ?_ (fun _ => ?_))
   | exact ih0 _ _ _ _ _ _ _ _ _ _ _ _ _
   | exact ih1 _ _ _ _ _ _ _ _ _ _ _ _ _ _ _ _ _ _ _ _ _ _ _ _ _ _ _
   | exact ih2 _ _ _ _ _ _ _ _ _ _ _ _ _ _ _ _ _ _ _ _ _ _ _ _ _ _ _
   | exact ih3 _ _ _ _ _ _ _ _ _ _ _ _ _ _ _ _ _ _ _ _ _ _ _ _ _ _ _
   | exact ih4 _ _ _ _ _ _ _ _ _ _ _ _ _ _ _ _ _ _ _ _ _ _ _ _ _ _ _
   | exact ih5 _ _ _ _ _ _ _ _ _ _ _ _ _ _ _ _ _ _ _ _ _ _ _ _ _ _ _
   | exact ih6 _ _ _ _ _ _ _ _ _ _ _ _ _ _ _ _ _ _ _ _ _ _ _ _ _ _ _
   | exact cofferlaw13_first.mono _
   | exact cofferref13_Same.mono _ _ _ _ _ _ _ _ _ _ _
   | exact version_Read.mono _ _
   | exact version_Write.mono _ _ _ _ _ _
   | exact LeO.none _
   | refine LeO.ite ?_ ?_
   | refine LeO.bind ?_ (fun _ => ?_)
  ·intro y0 y1 y2 y3 y4 y5 y6 y7 y8 y9 y10 y11 y12 y13 y14 y15 y16 y17 y18 y19 y20 y21 y22 y23 y24 y25 y26
   unfold cofferlaw13_VersionApart.l2
   repeat' first
   | (with_reducible exact ih0 _ _ _ _ _ _ _ _ _ _ _ _ _)
   | (with_reducible exact ih1 _ _ _ _ _ _ _ _ _ _ _ _ _ _ _ _ _ _ _ _ _ _ _ _ _ _ _)
   | (with_reducible exact ih2 _ _ _ _ _ _ _ _ _ _ _ _ _ _ _ _ _ _ _ _ _ _ _ _ _ _ _)
   | (with_reducible exact ih3 _ _ _ _ _ _ _ _ _ _ _ _ _ _ _ _ _ _ _ _ _ _ _ _ _ _ _)
   | (with_reducible exact ih4 _ _ _ _ _ _ _ _ _ _ _ _ _ _ _ _ _ _ _ _ _ _ _ _ _ _ _)
   | (with_reducible exact ih5 _ _ _ _ _ _ _ _ _ _ _ _ _ _ _ _ _ _ _ _ _ _ _ _ _ _ _)
   | (with_reducible exact ih6 _ _ _ _ _ _ _ _ _ _ _ _ _ _ _ _ _ _ _ _ _ _ _ _ _ _ _)
   | (with_reducible exact cofferlaw13_first.mono _)
   | (with_reducible exact cofferref13_Same.mono _ _ _ _ _ _ _ _ _ _ _)
   | (with_reducible exact version_Read.mono _ _)
   | (with_reducible exact version_Write.mono _ _ _ _ _ _)
   | (with_reducible exact LeO.refl _)
   | (with_reducible exact LeO.none _)
   | (with_reducible refine LeO.ite ?_ ?_)
   | (with_reducible refine LeO.bind ?_ (fun _ => ?_))
   | exact ih0 _ _ _ _ _ _ _ _ _ _ _ _ _
   | exact ih1 _ _ _ _ _ _ _ _ _ _ _ _ _ _ _ _ _ _ _ _ _ _ _ _ _ _ _
   | exact ih2 _ _ _ _ _ _ _ _ _ _ _ _ _ _ _ _ _ _ _ _ _ _ _ _ _ _ _
   | exact ih3 _ _ _ _ _ _ _ _ _ _ _ _ _ _ _ _ _ _ _ _ _ _ _ _ _ _ _
   | exact ih4 _ _ _ _ _ _ _ _ _ _ _ _ _ _ _ _ _ _ _ _ _ _ _ _ _ _ _
   | exact ih5 _ _ _ _ _ _ _ _ _ _ _ _ _ _ _ _ _ _ _ _ _ _ _ _ _ _ _
   | exact ih6 _ _ _ _ _ _ _ _ _ _ _ _ _ _ _ _ _ _ _ _ _ _ _ _ _ _ _
   | exact cofferlaw13_first.mono _
   | exact cofferref13_Same.mono _ _ _ _ _ _ _ _ _ _ _
   | exact version_Read.mono _ _
   | exact version_Write.mono _ _ _ _ _ _
   | exact LeO.none _
   | refine LeO.ite ?_ ?_
   | refine LeO.bind ?_ (fun _ => ?_)
  ·intro y0 y1 y2 y3 y4 y5 y6 y7 y8 y9 y10 y11 y12 y13 y14 y15 y16 y17 y18 y19 y20 y21 y22 y23 y24 y25 y26
   unfold cofferlaw13_VersionApart.l3
   repeat' first
   | (with_reducible exact ih0 _ _ _ _ _ _ _ _ _ _ _ _ _)
   | (with_reducible exact ih1 _ _ _ _ _ _ _ _ _ _ _ _ _ _ _ _ _ _ _ _ _ _ _ _ _ _ _)
   | (with_reducible exact ih2 _ _ _ _ _ _ _ _ _ _ _ _ _ _ _ _ _ _ _ _ _ _ _ _ _ _ _)
   | (with_reducible exact ih3 _ _ _ _ _ _ _ _ _ _ _ _ _ _ _ _ _ _ _ _ _ _ _ _ _ _ _)
   | (with_reducible exact ih4 _ _ _ _ _ _ _ _ _ _ _ _ _ _ _ _ _ _ _ _ _ _ _ _ _ _ _)
   | (with_reducible exact ih5 _ _ _ _ _ _ _ _ _ _ _ _ _ _ _ _ _ _ _ _ _ _ _ _ _ _ _)
   | (with_reducible exact ih6 _ _ _ _ _ _ _ _ _ _ _ _ _ _ _ _ _ _ _ _ _ _ _ _ _ _ _)
   | (with_reducible exact cofferlaw13_first.mono _)
   | (with_reducible exact cofferref13_Same.mono _ _ _ _ _ _ _ _ _ _ _)
   | (with_reducible exact version_Read.mono _ _)
   | (with_reducible exact version_Write.mono _ _ _ _ _ _)
   | (with_reducible exact LeO.refl _)
   | (with_reducible exact LeO.none _)
   | (with_reducible refine LeO.ite ?_ ?_)
   | (with_reducible refine LeO.bind ?_ (fun _ => ?_))
   | exact ih0 _ _ _ _ _ _ _ _ _ _ _ _ _
   | exact ih1 _ _ _ _ _ _ _ _ _ _ _ _ _ _ _ _ _ _ _ _ _ _ _ _ _ _ _
   | exact ih2 _ _ _ _ _ _ _ _ _ _ _ _ _ _ _ _ _ _ _ _ _ _ _ _ _ _ _
   | exact ih3 _ _ _ _ _ _ _ _ _ _ _ _ _ _ _ _ _ _ _ _ _ _ _ _ _ _ _
   | exact ih4 _ _ _ _ _ _ _ _ _ _ _ _ _ _ _ _ _ _ _ _ _ _ _ _ _ _ _
   | exact ih5 _ _ _ _ _ _ _ _ _ _ _ _ _ _ _ _ _ _ _ _ _ _ _ _ _ _ _
   | exact ih6 _ _ _ _ _ _ _ _ _ _ _ _ _ _ _ _ _ _ _ _ _ _ _ _ _ _ _
   | exact cofferlaw13_first.mono _
   | exact cofferref13_Same.mono _ _ _ _ _ _ _ _ _ _ _
   | exact version_Read.mono _ _
   | exact version_Write.mono _ _ _ _ _ _
   | exact LeO.none _
   | refine LeO.ite ?_ ?_
   | refine LeO.bind ?_ (fun _ => ?_)
  ·intro y0 y1 y2 y3 y4 y5 y6 y7 y8 y9 y10 y11 y12 y13 y14 y15 y16 y17 y18 y19 y20 y21 y22 y23 y24 y25 y26
   unfold cofferlaw13_VersionApart.l4
   repeat' first
   | (with_reducible exact ih0 _ _ _ _ _ _ _ _ _ _ _ _ _)
   | (with_reducible exact ih1 _ _ _ _ _ _ _ _ _ _ _ _ _ _ _ _ _ _ _ _ _ _ _ _ _ _ _)
   | (with_reducible exact ih2 _ _ _ _ _ _ _ _ _ _ _ _ _ _ _ _ _ _ _ _ _ _ _ _ _ _ _)
   | (with_reducible exact ih3 _ _ _ _ _ _ _ _ _ _ _ _ _ _ _ _ _ _ _ _ _ _ _ _ _ _ _)
   | (with_reducible exact ih4 _ _ _ _ _ _ _ _ _ _ _ _ _ _ _ _ _ _ _ _ _ _ _ _ _ _ _)
   | (with_reducible exact ih5 _ _ _ _ _ _ _ _ _ _ _ _ _ _ _ _ _ _ _ _ _ _ _ _ _ _ _)
   | (with_reducible exact ih6 _ _ _ _ _ _ _ _ _ _ _ _ _ _ _ _ _ _ _ _ _ _ _ _ _ _ _)
   | (with_reducible exact cofferlaw13_first.mono _)
   | (with_reducible exact cofferref13_Same.mono _ _ _ _ _ _ _ _ _ _ _)
   | (with_reducible exact version_Read.mono _ _)
   | (with_reducible exact version_Write.mono _ _ _ _ _ _)
   | (with_reducible exact LeO.refl _)
   | (with_reducible exact LeO.none _)
   | (with_reducible refine LeO.ite ?_ ?_)
   | (with_reducible refine LeO.bind ?_ (fun _ => ?_))
   | exact ih0 _ _ _ _ _ _ _ _ _ _ _ _ _
   | exact ih1 _ _ _ _ _ _ _ _ _ _ _ _ _ _ _ _ _ _ _ _ _ _ _ _ _ _ _
   | exact ih2 _ _ _ _ _ _ _ _ _ _ _ _ _ _ _ _ _ _ _ _ _ _ _ _ _ _ _
   | exact ih3 _ _ _ _ _ _ _ _ _ _ _ _ _ _ _ _ _ _ _ _ _ _ _ _ _ _ _
   | exact ih4 _ _ _ _ _ _ _ _ _ _ _ _ _ _ _ _ _ _ _ _ _ _ _ _ _ _ _
   | exact ih5 _ _ _ _ _ _ _ _ _ _ _ _ _ _ _ _ _ _ _ _ _ _ _ _ _ _ _
   | exact ih6 _ _ _ _ _ _ _ _ _ _ _ _ _ _ _ _ _ _ _ _ _ _ _ _ _ _ _
   | exact cofferlaw13_first.mono _
   | exact cofferref13_Same.mono _ _ _ _ _ _ _ _ _ _ _
   | exact version_Read.mono _ _
   | exact version_Write.mono _ _ _ _ _ _
   | exact LeO.none _
   | refine LeO.ite ?_ ?_
   | refine LeO.bind ?_ (fun _ => ?_)
theorem cofferlaw13_VersionApart.mono : ∀ a0 a1 a2 a3 a4 a5 a6 a7 a8 a9 k, LeO (cofferlaw13_VersionApart.f k a0 a1 a2 a3 a4 a5 a6 a7 a8 a9) (cofferlaw13_VersionApart.f (k + 1) a0 a1 a2 a3 a4 a5 a6 a7 a8 a9) := by
 intro a0 a1 a2 a3 a4 a5 a6 a7 a8 a9 k
 obtain ⟨ih0, ih1, ih2, ih3, ih4, ih5, ih6⟩ := cofferlaw13_VersionApart.mono_l k
 unfold cofferlaw13_VersionApart.f
 repeat' first
  | (with_reducible exact ih0 _ _ _ _ _ _ _ _ _ _ _ _ _)
  | (with_reducible exact ih1 _ _ _ _ _ _ _ _ _ _ _ _ _ _ _ _ _ _ _ _ _ _ _ _ _ _ _)
  | (with_reducible exact ih2 _ _ _ _ _ _ _ _ _ _ _ _ _ _ _ _ _ _ _ _ _ _ _ _ _ _ _)
  | (with_reducible exact ih3 _ _ _ _ _ _ _ _ _ _ _ _ _ _ _ _ _ _ _ _ _ _ _ _ _ _ _)
  | (with_reducible exact ih4 _ _ _ _ _ _ _ _ _ _ _ _ _ _ _ _ _ _ _ _ _ _ _ _ _ _ _)
  | (with_reducible exact ih5 _ _ _ _ _ _ _ _ _ _ _ _ _ _ _ _ _ _ _ _ _ _ _ _ _ _ _)
  | (with_reducible exact ih6 _ _ _ _ _ _ _ _ _ _ _ _ _ _ _ _ _ _ _ _ _ _ _ _ _ _ _)
  | (with_reducible exact cofferlaw13_first.mono _)
  | (with_reducible exact cofferref13_Same.mono _ _ _ _ _ _ _ _ _ _ _)
  | (with_reducible exact version_Read.mono _ _)
  | (with_reducible exact version_Write.mono _ _ _ _ _ _)
  | (with_reducible exact LeO.refl _)
  | (with_reducible exact LeO.none _)
  | (with_reducible refine LeO.ite ?_ ?_)
  | (with_reducible refine LeO.bind ?_ (fun _ => ?_))
  | exact ih0 _ _ _ _ _ _ _ _ _ _ _ _ _
  | exact ih1 _ _ _ _ _ _ _ _ _ _ _ _ _ _ _ _ _ _ _ _ _ _ _ _ _ _ _
  | exact ih2 _ _ _ _ _ _ _ _ _ _ _ _ _ _ _ _ _ _ _ _ _ _ _ _ _ _ _
  | exact ih3 _ _ _ _ _ _ _ _ _ _ _ _ _ _ _ _ _ _ _ _ _ _ _ _ _ _ _
  | exact ih4 _ _ _ _ _ _ _ _ _ _ _ _ _ _ _ _ _ _ _ _ _ _ _ _ _ _ _
  | exact ih5 _ _ _ _ _ _ _ _ _ _ _ _ _ _ _ _ _ _ _ _ _ _ _ _ _ _ _
  | exact ih6 _ _ _ _ _ _ _ _ _ _ _ _ _ _ _ _ _ _ _ _ _ _ _ _ _ _ _
  | exact cofferlaw13_first.mono _
  | exact cofferref13_Same.mono _ _ _ _ _ _ _ _ _ _ _
  | exact version_Read.mono _ _
  | exact version_Write.mono _ _ _ _ _ _
  | exact LeO.none _
  | refine LeO.ite ?_ ?_
  | refine LeO.bind ?_ (fun _ => ?_)
end Go.Proofs.Ytdhkcklgnnilfaa.X
