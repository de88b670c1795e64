/- Chapter 2: HashKnown, walked: the standard's examples, the million letters too. -/
import Derived.Test.YtcmjpdfkacmogaaShaY
import Derived.Test.YtcmjpdfkacmogaaKnA
import Derived.Test.YtcmjpdfkacmogaaKnB
import Derived.Test.YtcmjpdfkacmogaaKnC
import Derived.Test.YtcmjpdfkacmogaaKnD
namespace Go.Proofs.Ytcmjpdfkacmogaa.Sha
open Go.RowKit Go.Proofs.Ytcmjpdfkacmogaa.X Go.Proofs.YtcmjpdfkacmogaaW.PrintWords Go.Proofs.YtcmjpdfkacmogaaW.PrintLast Go.Proofs.YtcmjpdfkacmogaaW.PrintMore
set_option linter.unusedVariables false
set_option linter.unusedSimpArgs false

theorem kall : Iter 15625 (of8 1779033703 3144134277 1013904242 2773480762 1359893119 2600822924 528734635 1541459225) (of8 2061136107 1745259042 791610055 2140370626 1884297759 3529239238 671294972 693152569) := ((kpartA.trans kpartB).trans kpartC).trans kpartD
theorem H0_of : H0 = of8 1779033703 3144134277 1013904242 2773480762 1359893119 2600822924 528734635 1541459225 := by kernel_rfl
def tailM : List UInt8 := tailOf 1000000 (BitVec.ofNat 64 8000000)
set_option maxRecDepth 100000 in
theorem tailM_len : tailM.length = 64 := by kernel_rfl
set_option maxRecDepth 100000 in
theorem lastM : out8 (turn K0 (of8 2061136107 1745259042 791610055 2140370626 1884297759 3529239238 671294972 693152569) tailM) = [205, 199, 110, 92, 153, 20, 251, 146, 129, 161, 199, 226, 132, 215, 62, 103, 241, 128, 154, 72, 164, 151, 32, 14, 4, 109, 57, 204, 199, 17, 44, 208] := by kernel_rfl
theorem sumF_open (l : List UInt8) (n : Nat) (h : l.length = n) : sumF l = out8 (blk8 H0 (l ++ tailOf n (BitVec.ofNat 64 (8 * n)))).1 := by subst h; rfl
theorem sum_million (m : Nat) (hm : m = 64 * 15625) : sumF (List.replicate m 97) = [205, 199, 110, 92, 153, 20, 251, 146, 129, 161, 199, 226, 132, 215, 62, 103, 241, 128, 154, 72, 164, 151, 32, 14, 4, 109, 57, 204, 199, 17, 44, 208] := by
  have h8 : BitVec.ofNat 64 (8 * m) = BitVec.ofNat 64 8000000 := by rw [hm]
  have h1 : m = 1000000 := by rw [hm]
  have e : tailOf m (BitVec.ofNat 64 (8 * m)) = tailM := by rw [h8, h1]; rfl
  rw [sumF_open _ m List.length_replicate, e, hm, H0_of, blk_equal tailM kall, blk_one _ _ tailM_len]
  exact lastM
def m56 : List UInt8 := [97, 98, 99, 100, 98, 99, 100, 101, 99, 100, 101, 102, 100, 101, 102, 103, 101, 102, 103, 104, 102, 103, 104, 105, 103, 104, 105, 106, 104, 105, 106, 107, 105, 106, 107, 108, 106, 107, 108, 109, 107, 108, 109, 110, 108, 109, 110, 111, 109, 110, 111, 112, 110, 111, 112, 113]
def pad56 : List UInt8 := m56 ++ tailOf 56 (BitVec.ofNat 64 448)
theorem pad56_len : pad56.length = 128 := by kernel_rfl
set_option maxRecDepth 100000 in
theorem two56 : out8 (turn K0 (turn K0 H0 (pad56.take 64)) (pad56.drop 64)) = [36, 141, 106, 97, 210, 6, 56, 184, 229, 192, 38, 147, 12, 62, 96, 57, 163, 60, 228, 89, 100, 255, 33, 103, 246, 236, 237, 212, 25, 219, 6, 193] := by kernel_rfl
theorem sum_56 : sumF m56 = [36, 141, 106, 97, 210, 6, 56, 184, 229, 192, 38, 147, 12, 62, 96, 57, 163, 60, 228, 89, 100, 255, 33, 103, 246, 236, 237, 212, 25, 219, 6, 193] := by
  rw [sumF_open m56 56 rfl]
  show out8 (blk8 H0 pad56).1 = _
  rw [blk8_long H0 pad56 (by rw [pad56_len]; decide), blk_one _ _ (by rw [List.length_drop, pad56_len])]
  exact two56
set_option maxRecDepth 100000 in
theorem hex_million (m : Nat) (hm : m = 64 * 15625) : tx (hexF (sumF (List.replicate m 97))) = ⟨#[99, 100, 99, 55, 54, 101, 53, 99, 57, 57, 49, 52, 102, 98, 57, 50, 56, 49, 97, 49, 99, 55, 101, 50, 56, 52, 100, 55, 51, 101, 54, 55, 102, 49, 56, 48, 57, 97, 52, 56, 97, 52, 57, 55, 50, 48, 48, 101, 48, 52, 54, 100, 51, 57, 99, 99, 99, 55, 49, 49, 50, 99, 100, 48]⟩ := by
  rw [sum_million m hm]; kernel_rfl
set_option maxRecDepth 100000 in
theorem hex_56 : tx (hexF (sumF m56)) = ⟨#[50, 52, 56, 100, 54, 97, 54, 49, 100, 50, 48, 54, 51, 56, 98, 56, 101, 53, 99, 48, 50, 54, 57, 51, 48, 99, 51, 101, 54, 48, 51, 57, 97, 51, 51, 99, 101, 52, 53, 57, 54, 52, 102, 102, 50, 49, 54, 55, 102, 54, 101, 99, 101, 100, 100, 52, 49, 57, 100, 98, 48, 54, 99, 49]⟩ := by
  rw [sum_56]; kernel_rfl
theorem rep_more (k : Nat) : List.replicate k (97 : UInt8) ++ [97] = List.replicate (k + 1) 97 := (List.replicate_succ').symm
theorem rep_add (n k : Nat) : List.replicate n (97 : UInt8) ++ List.replicate k 97 = List.replicate (n + k) 97 := List.replicate_append_replicate
set_option maxHeartbeats 8000000 in
set_option maxRecDepth 100000 in
theorem known_walk (w : World) : Calls Try.prog 8 #[] w fun e w' => e = .returned (.bool true) ∧ Below w.heap.size w w' := by
  obtain ⟨m, hm⟩ : ∃ m : Nat, m = 64 * 15625 := ⟨_, rfl⟩
  have hm2 : m = 1000 * 1000 := by rw [hm]
  obtain ⟨S1, hS1⟩ : ∃ S, S = B32 (sumF (List.replicate m 97)) := ⟨_, rfl⟩
  obtain ⟨S2, hS2⟩ : ∃ S, S = B32 (sumF m56) := ⟨_, rfl⟩
  have HSW : ∀ (g : Nat) (W : World), Held g (List.replicate m 97) W → Calls Try.prog 15 #[.pointer (some ⟨g, 0, none⟩)] W fun e w' => e = .returned S1 ∧ Below W.heap.size W w' := fun g W h => by rw [hS1]; exact held_sum g _ W h
  have HX1 : ∀ W : World, Calls Try.prog 18 #[S1] W fun e w' => e = .returned (.string ⟨#[99, 100, 99, 55, 54, 101, 53, 99, 57, 57, 49, 52, 102, 98, 57, 50, 56, 49, 97, 49, 99, 55, 101, 50, 56, 52, 100, 55, 51, 101, 54, 55, 102, 49, 56, 48, 57, 97, 52, 56, 97, 52, 57, 55, 50, 48, 48, 101, 48, 52, 54, 100, 51, 57, 99, 99, 99, 55, 49, 49, 50, 99, 100, 48]⟩) ∧ Below W.heap.size W w' := fun W => by
    have h := hex_calls (sumF (List.replicate m 97)) (sumF_len _) W
    rw [hex_million m hm, ← hS1] at h
    exact h
  have HS2 : ∀ W : World, Calls Try.prog 11 #[.string ⟨#[97, 98, 99, 100, 98, 99, 100, 101, 99, 100, 101, 102, 100, 101, 102, 103, 101, 102, 103, 104, 102, 103, 104, 105, 103, 104, 105, 106, 104, 105, 106, 107, 105, 106, 107, 108, 106, 107, 108, 109, 107, 108, 109, 110, 108, 109, 110, 111, 109, 110, 111, 112, 110, 111, 112, 113]⟩] W fun e w' => e = .returned S2 ∧ Below W.heap.size W w' := fun W => by
    have h := sum_calls m56 W (by decide)
    rw [← hS2] at h
    exact h
  have HX2 : ∀ W : World, Calls Try.prog 18 #[S2] W fun e w' => e = .returned (.string ⟨#[50, 52, 56, 100, 54, 97, 54, 49, 100, 50, 48, 54, 51, 56, 98, 56, 101, 53, 99, 48, 50, 54, 57, 51, 48, 99, 51, 101, 54, 48, 51, 57, 97, 51, 51, 99, 101, 52, 53, 57, 54, 52, 102, 102, 50, 49, 54, 55, 102, 54, 101, 99, 101, 100, 100, 52, 49, 57, 100, 98, 48, 54, 99, 49]⟩) ∧ Below W.heap.size W w' := fun W => by
    have h := hex_calls (sumF m56) (sumF_len _) W
    rw [hex_56, ← hS2] at h
    exact h
  clear hS1 hS2 hm
  go_enter Try.func8, Try.ntmps8
  go_wp2_with (first
    | (go_at_call 9; (with_reducible refine (head_calls _).mono ?_); rintro e w1 ⟨rfl, hb⟩; have D0 := Aside0.mk hb; clear hb)
    | (go_at_call 13; (with_reducible refine (held_new _).mono ?_); rintro e w3 ⟨g, rfl, hg, hh, hb⟩; have GG : Aside0 (w.heap.size ≤ g) := ⟨Nat.le_trans D0.out.size hg⟩; have HH := Aside0.mk hh; have n_D0 := Aside0.mk (below_then D0.out D0.out.size hb); clear hb hg hh D0; have D0 := n_D0; clear n_D0))
  go_loopw [2, 3] (fun v2 v3 W => ∃ i : Nat, i ≤ 1000 ∧ v3 = .int .i64 i ∧ v2 = .string (tx (List.replicate i 97)) ∧ Aside0 (Held g [] W) ∧ Aside0 (Below w.heap.size w W)) (fun _ v3 _ => 1000 - (intOf v3).toNat)
  case atStart => exact ⟨0, Nat.zero_le _, rfl, rfl, HH, D0⟩
  case round =>
    clear HH D0
    obtain ⟨i, hi, rfl, rfl, HH, D0⟩ := hrel
    by_cases hlt : i < 1000
    · have q1 : ((i : Int) < 1000) = True := eq_true (by omega)
      obtain ⟨X, hX⟩ : ∃ X, X = tx (List.replicate i 97) := ⟨_, rfl⟩
      have hXs : X.size = i := by rw [hX, tx_size, List.length_replicate]
      have hXa : X ++ (⟨#[97]⟩ : ByteArray) = tx (List.replicate (i + 1) 97) := by rw [hX, ← rep_more]; exact tx_append _ [97]
      obtain ⟨Y, hY⟩ : ∃ Y, Y = tx (List.replicate (i + 1) 97) := ⟨_, rfl⟩
      rw [← hY] at hXa
      rw [← hX]
      have t1 : (i + 1 ≤ 9223372036854775807) = True := eq_true (by omega)
      have t2 : (9223372036854775807 < i + 1) = False := eq_false (by omega)
      have HY := Aside0.mk hY
      clear hX hY
      go_wp2
      go_roundw
      case rel => exact ⟨i + 1, by omega, by go_num, by rw [HY.out], HH, D0⟩
      case measure => simp [intOf]; omega
    · have hie : i = 1000 := by omega
      have q1 : ((i : Int) < 1000) = False := eq_false (by omega)
      obtain ⟨X, hX⟩ : ∃ X, X = tx (List.replicate i 97) := ⟨_, rfl⟩
      have HW : ∀ (j : Nat) (W : World), Held g (List.replicate (1000 * j) 97) W → Calls Try.prog 14 #[.pointer (some ⟨g, 0, none⟩), .string X] W fun e w' => e = .returned (.tuple #[]) ∧ Held g (List.replicate (1000 * (j + 1)) 97) w' ∧ Own g W w' := fun j W h => by
        have := held_write g _ (List.replicate 1000 97) W h (by rw [List.length_replicate]; decide)
        rw [rep_add, ← hie, ← hX, hie, show 1000 * j + 1000 = 1000 * (j + 1) by omega] at this
        exact this
      rw [← hX]
      clear hX hie hlt hi
      go_wp2
      go_loopw [4] (fun v W => ∃ j : Nat, j ≤ 1000 ∧ v = .int .i64 j ∧ Aside0 (Held g (List.replicate (1000 * j) 97) W) ∧ Aside0 (Below w.heap.size w W)) (fun v _ => 1000 - (intOf v).toNat)
      case atStart => exact ⟨0, Nat.zero_le _, rfl, HH, D0⟩
      case round =>
        clear HH D0
        obtain ⟨j, hj, rfl, HH, D0⟩ := hrel
        by_cases hjl : j < 1000
        · have q2 : ((j : Int) < 1000) = True := eq_true (by omega)
          go_wp2_with (go_at_call 14; (with_reducible refine (HW j _ HH.out).mono ?_); rintro e w6 ⟨rfl, hh, hb⟩; have n_HH := Aside0.mk hh; have n_D0 := Aside0.mk (D0.out.trans (hb.below _ GG.out D0.out.size)); clear hb hh HH D0; have D0 := n_D0; have HH := n_HH; clear n_D0 n_HH)
          go_roundw
          case rel => exact ⟨j + 1, by omega, by go_num, HH, D0⟩
          case measure => simp [intOf]; omega
        · obtain rfl : j = 1000 := by omega
          have q2 : (((1000 : Nat) : Int) < 1000) = False := eq_false (by omega)
          rw [← hm2] at HH
          go_wp2_with (first
            | (go_at_call 15; (with_reducible refine (HSW g _ HH.out).mono ?_); rintro e w7 ⟨rfl, hb⟩; have n_D0 := Aside0.mk (below_then D0.out D0.out.size hb); clear hb HH D0; have D0 := n_D0; clear n_D0)
            | (go_at_call 18; (with_reducible refine (HX1 _).mono ?_); rintro e w8 ⟨rfl, hb⟩; have n_D0 := Aside0.mk (below_then D0.out D0.out.size hb); clear hb D0; have D0 := n_D0; clear n_D0)
            | (go_at_call 11; (with_reducible refine (HS2 _).mono ?_); rintro e w9 ⟨rfl, hb⟩; have n_D0 := Aside0.mk (below_then D0.out D0.out.size hb); clear hb D0; have D0 := n_D0; clear n_D0)
            | (go_at_call 18; (with_reducible refine (HX2 _).mono ?_); rintro e w10 ⟨rfl, hb⟩; have n_D0 := Aside0.mk (below_then D0.out D0.out.size hb); clear hb D0; have D0 := n_D0; clear n_D0))
          go_ret
          exact ⟨rfl, D0.out⟩
end Go.Proofs.Ytcmjpdfkacmogaa.Sha
