/- Chapter 2: the document's words, walked by hand. -/
import Derived.Test.YthpnppfpmhlkaaaShaB
import Derived.Test.YthpnppfpmhlkaaaX21
namespace Go.Proofs.Ythpnppfpmhlkaaa.Sha
open Go.RowKit Go.Proofs.Ythpnppfpmhlkaaa.X Go.Proofs.YthpnppfpmhlkaaaW.PrintWords Go.Proofs.YthpnppfpmhlkaaaW.PrintLast Go.Proofs.YthpnppfpmhlkaaaW.PrintMore
set_option linter.unusedVariables false
set_option linter.unusedSimpArgs false
attribute [local go_sem] xor_enc and_enc or_enc add_enc not_enc wrap_of_enc shl8 shl16 shl24 shr3 shr10

theorem right_f (x : BitVec 32) (n : Nat) (h0 : 0 < n) (h : n < 32) : cofferref02_right.f (enc x) (n : Int) = some (enc (rr n x)) := by
  unfold cofferref02_right.f
  have w : IntKind.u64.wrap (32 - (n : Int)) = ((32 - n : Nat) : Int) := by
    have w : ∀ n : Int, IntKind.u64.wrap n = n % 18446744073709551616 := fun _ => rfl
    rw [w]; omega
  rw [w, if_pos (by omega), if_pos (by omega)]
  have e1 : shl .u32 (enc x) ((32 - n : Nat) : Int) = enc (x <<< (32 - n)) := by
    show IntKind.u32.wrap (enc x * 2 ^ min ((32 - n : Nat) : Int).toNat 32) = _
    rw [Int.toNat_natCast, Nat.min_eq_left (by omega), shl_enc]
  have e2 : shr .u32 (enc x) (n : Int) = enc (x >>> n) := by
    show enc x / 2 ^ min ((n : Int)).toNat 32 = _
    rw [Int.toNat_natCast, Nat.min_eq_left (by omega), shr_enc]
  rw [e1, e2, or_enc]; rfl
theorem right_calls7 (x : BitVec 32) (w : World) : Calls Try.prog 39 #[.int .u32 (enc x), .int .u64 7] w fun e w' => e = .returned (.int .u32 (enc (rr 7 x))) ∧ Below w.heap.size w w' := by
  refine (cofferref02_right.calls (enc x) 7 (enc (rr 7 x)) w (right_f x 7 (by decide) (by decide))).mono ?_
  rintro e w' ⟨rfl, h⟩
  exact ⟨rfl, h.below⟩
theorem right_calls18 (x : BitVec 32) (w : World) : Calls Try.prog 39 #[.int .u32 (enc x), .int .u64 18] w fun e w' => e = .returned (.int .u32 (enc (rr 18 x))) ∧ Below w.heap.size w w' := by
  refine (cofferref02_right.calls (enc x) 18 (enc (rr 18 x)) w (right_f x 18 (by decide) (by decide))).mono ?_
  rintro e w' ⟨rfl, h⟩
  exact ⟨rfl, h.below⟩
theorem right_calls17 (x : BitVec 32) (w : World) : Calls Try.prog 39 #[.int .u32 (enc x), .int .u64 17] w fun e w' => e = .returned (.int .u32 (enc (rr 17 x))) ∧ Below w.heap.size w w' := by
  refine (cofferref02_right.calls (enc x) 17 (enc (rr 17 x)) w (right_f x 17 (by decide) (by decide))).mono ?_
  rintro e w' ⟨rfl, h⟩
  exact ⟨rfl, h.below⟩
theorem right_calls19 (x : BitVec 32) (w : World) : Calls Try.prog 39 #[.int .u32 (enc x), .int .u64 19] w fun e w' => e = .returned (.int .u32 (enc (rr 19 x))) ∧ Below w.heap.size w w' := by
  refine (cofferref02_right.calls (enc x) 19 (enc (rr 19 x)) w (right_f x 19 (by decide) (by decide))).mono ?_
  rintro e w' ⟨rfl, h⟩
  exact ⟨rfl, h.below⟩
theorem right_calls6 (x : BitVec 32) (w : World) : Calls Try.prog 39 #[.int .u32 (enc x), .int .u64 6] w fun e w' => e = .returned (.int .u32 (enc (rr 6 x))) ∧ Below w.heap.size w w' := by
  refine (cofferref02_right.calls (enc x) 6 (enc (rr 6 x)) w (right_f x 6 (by decide) (by decide))).mono ?_
  rintro e w' ⟨rfl, h⟩
  exact ⟨rfl, h.below⟩
theorem right_calls11 (x : BitVec 32) (w : World) : Calls Try.prog 39 #[.int .u32 (enc x), .int .u64 11] w fun e w' => e = .returned (.int .u32 (enc (rr 11 x))) ∧ Below w.heap.size w w' := by
  refine (cofferref02_right.calls (enc x) 11 (enc (rr 11 x)) w (right_f x 11 (by decide) (by decide))).mono ?_
  rintro e w' ⟨rfl, h⟩
  exact ⟨rfl, h.below⟩
theorem right_calls25 (x : BitVec 32) (w : World) : Calls Try.prog 39 #[.int .u32 (enc x), .int .u64 25] w fun e w' => e = .returned (.int .u32 (enc (rr 25 x))) ∧ Below w.heap.size w w' := by
  refine (cofferref02_right.calls (enc x) 25 (enc (rr 25 x)) w (right_f x 25 (by decide) (by decide))).mono ?_
  rintro e w' ⟨rfl, h⟩
  exact ⟨rfl, h.below⟩
theorem right_calls2 (x : BitVec 32) (w : World) : Calls Try.prog 39 #[.int .u32 (enc x), .int .u64 2] w fun e w' => e = .returned (.int .u32 (enc (rr 2 x))) ∧ Below w.heap.size w w' := by
  refine (cofferref02_right.calls (enc x) 2 (enc (rr 2 x)) w (right_f x 2 (by decide) (by decide))).mono ?_
  rintro e w' ⟨rfl, h⟩
  exact ⟨rfl, h.below⟩
theorem right_calls13 (x : BitVec 32) (w : World) : Calls Try.prog 39 #[.int .u32 (enc x), .int .u64 13] w fun e w' => e = .returned (.int .u32 (enc (rr 13 x))) ∧ Below w.heap.size w w' := by
  refine (cofferref02_right.calls (enc x) 13 (enc (rr 13 x)) w (right_f x 13 (by decide) (by decide))).mono ?_
  rintro e w' ⟨rfl, h⟩
  exact ⟨rfl, h.below⟩
theorem right_calls22 (x : BitVec 32) (w : World) : Calls Try.prog 39 #[.int .u32 (enc x), .int .u64 22] w fun e w' => e = .returned (.int .u32 (enc (rr 22 x))) ∧ Below w.heap.size w w' := by
  refine (cofferref02_right.calls (enc x) 22 (enc (rr 22 x)) w (right_f x 22 (by decide) (by decide))).mono ?_
  rintro e w' ⟨rfl, h⟩
  exact ⟨rfl, h.below⟩
def wor.T5 : Bool × List (List Nat × List Nat) := (true, [([], []), ([], []), ([], []), ([2], [2]), ([1, 3], [1, 3]), ([4], [4]), ([5], [5]), ([6], [6]), ([], []), ([], []), ([9], [9]), ([10], [10]), ([8, 11], [8, 11]), ([12], [12]), ([13], [13]), ([14], [14]), ([7, 15], [7, 15]), ([], []), ([], []), ([18], [18]), ([19], [19]), ([17, 20], [17, 20]), ([21], [21]), ([22], [22]), ([23], [23]), ([16, 24], [16, 24]), ([], []), ([], []), ([27], [27]), ([28], [28]), ([26, 29], [26, 29]), ([30], [30]), ([31], [31]), ([25, 32], [25, 32]), ([0, 0, 1, 2, 3, 4, 5, 6, 7, 8, 9, 10, 11, 12, 13, 14, 15, 16, 17, 18, 19, 20, 21, 22, 23, 24, 25, 26, 27, 28, 29, 30, 31, 32, 33], [0]), ([34, 33, 0, 1, 2, 3, 4, 5, 6, 7, 8, 9, 10, 11, 12, 13, 14, 15, 16, 17, 18, 19, 20, 21, 22, 23, 24, 25, 26, 27, 28, 29, 30, 31, 32, 33], [33, 34])])
def wor.B5 : List Nat := [0, 0, 0, 4, 14, 30, 62, 126, 0, 0, 512, 1536, 3840, 7936, 16128, 32512, 65534, 0, 0, 262144, 786432, 1966080, 4063232, 8257536, 16646144, 33554430, 0, 0, 134217728, 402653184, 1006632960, 2080374784, 4227858432, 8589934590, 17179869183, 34359738367]
theorem wor.tab5 : rtab .any (opsOf Try.f38 5) = wor.T5 := by kernel_rfl
theorem wor.bits5 : waitsOk wor.T5.2 wor.B5 = true := by kernel_rfl
def wor.T13 : Bool × List (List Nat × List Nat) := (true, [([], []), ([], []), ([], []), ([2], [2]), ([3], [3]), ([4], [4]), ([1, 5], [1, 5]), ([], []), ([6, 7], [6, 7]), ([], []), ([9], [9]), ([10], [10]), ([11], [11]), ([8, 12], [8, 12]), ([0, 0, 1, 2, 3, 4, 5, 6, 7, 8, 9, 10, 11, 12, 13], [0]), ([14, 13, 0, 1, 2, 3, 4, 5, 6, 7, 8, 9, 10, 11, 12, 13], [13, 14])])
def wor.B13 : List Nat := [0, 0, 0, 4, 12, 28, 62, 0, 254, 0, 512, 1536, 3584, 8190, 16383, 32767]
theorem wor.tab13 : rtab .any (opsOf Try.f38 13) = wor.T13 := by kernel_rfl
theorem wor.bits13 : waitsOk wor.T13.2 wor.B13 = true := by kernel_rfl
set_option maxHeartbeats 8000000 in
set_option maxRecDepth 100000 in
theorem words_calls (gb o cap : Nat) (l : List UInt8) (w : World) (hgb : gb < w.heap.size) (hc : ∀ i, i < 64 → w.cell? ⟨gb, o + i, none⟩ = some (.int .u8 (enc (byte l i)))) : Calls Try.prog 38 #[.slice (some ⟨gb, o, none⟩) 64 cap] w fun e w' => e = .returned (.agg (vals (wl l 64))) ∧ Below w.heap.size w w' := by
  have HC := Aside0.mk hc
  have HGB := Aside0.mk hgb
  clear hc hgb
  go_enter Try.func38, Try.ntmps38
  go_upto_region 2 with (fail)
  change Code.wp _ _ _ _ ((w.alloc (.cells (row 64 []) 51)).alloc (.cells (row 64 []) 51))
  have B2 : Aside0 (((w.alloc (.cells (row 64 []) 51)).alloc (.cells (row 64 []) 51)).heap[w.heap.size]? = some (.cells (row 64 []) 51 (0, 0))) := ⟨blk_below (blk_new w (.cells (row 64 []) 51)) (below_alloc (Below.refl _ _) _)⟩
  have B3 : Aside0 (((w.alloc (.cells (row 64 []) 51)).alloc (.cells (row 64 []) 51)).heap[w.heap.size + 1]? = some (.cells (row 64 (wl l 0)) 51 (0, 0))) := ⟨alloc_second _ _ _⟩
  have D0 := Aside0.mk (below_alloc (below_alloc (Below.refl w.heap.size w) (.cells (row 64 []) 51)) (.cells (row 64 []) 51))
  generalize (w.alloc (.cells (row 64 []) 51)).alloc (.cells (row 64 []) 51) = w1 at B2 B3 D0 ⊢
  obtain ⟨g2, hg2⟩ : ∃ g, g = w.heap.size := ⟨_, rfl⟩
  obtain ⟨g3, hg3⟩ : ∃ g, g = w.heap.size + 1 := ⟨_, rfl⟩
  have P2 : (Value.pointer (some ⟨w.heap.size, 0, none⟩)) = .pointer (some ⟨g2, 0, none⟩) := by rw [hg2]
  have P3 : (Value.pointer (some ⟨w.heap.size + 1, 0, none⟩)) = .pointer (some ⟨g3, 0, none⟩) := by rw [hg3]
  rw [P2, P3]
  rw [← hg3] at B3
  rw [← hg2] at B2
  have G2' : Aside0 (w.heap.size ≤ g2) := ⟨by omega⟩
  have G3 : Aside0 (w.heap.size ≤ g3) := ⟨by omega⟩
  have N23' : Aside0 (g2 ≠ g3) := ⟨by omega⟩
  clear P2 P3 hg2 hg3
  go_wp2
  go_loopw [4] (fun i W => ∃ n : Nat,  n ≤ 16 ∧ i = .int .i64 n ∧ Aside0 (W.heap[g2]? = some (.cells (row 64 []) 51 (0, 0))) ∧ Aside0 (W.heap[g3]? = some (.cells (row 64 (wl l n)) 51 (0, 0))) ∧ Aside0 (Below w.heap.size w W)) (fun i _ => 16 - (intOf i).toNat)
  case atStart => exact ⟨0, by omega, rfl, B2, B3, D0⟩
  case round =>
    clear B2 B3 D0
    obtain ⟨n, hn, rfl, B2, B3, D0⟩ := hrel
    by_cases hlt : n < 16
    · have hn64 : n < 64 := by omega
      have pn : (0 ≤ (n : Int)) = True := eq_true (by omega)
      have qn : ((n : Int) < 16) = True := eq_true (by omega)
      have qn64 : ((n : Int) < 64) = True := eq_true (by omega)
      obtain ⟨j0, hj0⟩ : ∃ j, j = 4 * n := ⟨_, rfl⟩
      obtain ⟨j1, hj1⟩ : ∃ j, j = 4 * n + 1 := ⟨_, rfl⟩
      obtain ⟨j2, hj2⟩ : ∃ j, j = 4 * n + 2 := ⟨_, rfl⟩
      obtain ⟨j3, hj3⟩ : ∃ j, j = 4 * n + 3 := ⟨_, rfl⟩
      have e4 : wrap64 (4 * (n : Int)) = (j0 : Int) := by unfold wrap64; omega
      have e41 : wrap64 ((j0 : Int) + 1) = (j1 : Int) := by unfold wrap64; omega
      have e42 : wrap64 ((j0 : Int) + 2) = (j2 : Int) := by unfold wrap64; omega
      have e43 : wrap64 ((j0 : Int) + 3) = (j3 : Int) := by unfold wrap64; omega
      have z0 : j0 < 64 := by omega
      have z1 : j1 < 64 := by omega
      have z2 : j2 < 64 := by omega
      have z3 : j3 < 64 := by omega
      have x0 : ((j0 : Int) < 64) = True := eq_true (by omega)
      have x1 : ((j1 : Int) < 64) = True := eq_true (by omega)
      have x2 : ((j2 : Int) < 64) = True := eq_true (by omega)
      have x3 : ((j3 : Int) < 64) = True := eq_true (by omega)
      have HJ0 := Aside0.mk hj0
      have HJ1 := Aside0.mk hj1
      have HJ2 := Aside0.mk hj2
      have HJ3 := Aside0.mk hj3
      clear hj0 hj1 hj2 hj3
      go_upto_region 5 with (fail)
      refine start_ (n := 36) (S := fun W => W.cell? ⟨gb, o + j0, none⟩ = some (.int .u8 (enc (byte l j0))) ∧ W.cell? ⟨gb, o + j1, none⟩ = some (.int .u8 (enc (byte l j1))) ∧ W.cell? ⟨gb, o + j2, none⟩ = some (.int .u8 (enc (byte l j2))) ∧ W.cell? ⟨gb, o + j3, none⟩ = some (.int .u8 (enc (byte l j3)))) (ds := [35]) #[false, false, false, false, false, false, false, false, false, false, false, false, false, false, false, false, false, false, false, false, false, false, false, false, false, false, false, false, false, false, false, false, false, false, false, false] (by kernel_rfl) rfl rfl ⟨((below_drew1 D0.out).cell HGB.out).trans (HC.out j0 z0), ((below_drew1 D0.out).cell HGB.out).trans (HC.out j1 z1), ((below_drew1 D0.out).cell HGB.out).trans (HC.out j2 z2), ((below_drew1 D0.out).cell HGB.out).trans (HC.out j3 z3)⟩ (fun hHeld => ?_); refine with_tabW wor.tab5 wor.bits5 (fun HT_ HW_ => ?_)
      have n_B2 := Aside0.mk (blk_drew B2.out)
      have n_B3 := Aside0.mk (blk_drew B3.out)
      have n_D0 := Aside0.mk (below_drew1 D0.out)
      clear B2 B3 D0
      have B2 := n_B2
      have B3 := n_B3
      have D0 := n_D0
      clear n_B2 n_B3 n_D0
      generalize World.drew _ = wR at B2 B3 D0 hHeld ⊢
      refine pure_ (i := 0) (N := some 14) (v := ?_) (a' := ?_) #[true, false, false, false, false, false, false, false, false, false, false, false, false, false, false, false, false, false, false, false, false, false, false, false, false, false, false, false, false, false, false, false, false, false, false, false] rfl rfl (any_of HT_.out (by kernel_rfl)) (fun _ _ _ h => h) (Or.inl ⟨by rfl, ?_⟩) ?_ ?_
      rotate_left
      · intro w'
        go_simp
        with_reducible rfl
      rotate_left
      · simp only [Act.put, List.setIfInBounds_toArray, List.set_cons_zero, List.set_cons_succ, i64_w, i32_w]
        rfl
      refine pure_ (i := 1) (N := some 15) (v := ?_) (a' := ?_) #[true, true, false, false, false, false, false, false, false, false, false, false, false, false, false, false, false, false, false, false, false, false, false, false, false, false, false, false, false, false, false, false, false, false, false, false] rfl rfl (any_of HT_.out (by kernel_rfl)) (fun _ _ _ h => h) (Or.inl ⟨by rfl, ?_⟩) ?_ ?_
      rotate_left
      · intro w'
        go_simp
        with_reducible rfl
      rotate_left
      · simp only [Act.put, List.setIfInBounds_toArray, List.set_cons_zero, List.set_cons_succ, i64_w, i32_w]
        rfl
      refine pure_ (i := 2) (N := some 16) (v := ?_) (a' := ?_) #[true, true, true, false, false, false, false, false, false, false, false, false, false, false, false, false, false, false, false, false, false, false, false, false, false, false, false, false, false, false, false, false, false, false, false, false] rfl rfl (any_of HT_.out (by kernel_rfl)) (fun _ _ _ h => h) (Or.inl ⟨by rfl, ?_⟩) ?_ ?_
      rotate_left
      · intro w'
        go_simp
        with_reducible rfl
      rotate_left
      · simp only [Act.put, List.setIfInBounds_toArray, List.set_cons_zero, List.set_cons_succ, i64_w, i32_w]
        rfl
      refine pure_ (i := 3) (N := some 17) (v := ?_) (a' := ?_) #[true, true, true, true, false, false, false, false, false, false, false, false, false, false, false, false, false, false, false, false, false, false, false, false, false, false, false, false, false, false, false, false, false, false, false, false] rfl rfl (any_of HT_.out (by kernel_rfl)) (fun _ _ _ h => h) (Or.inl ⟨by rfl, ?_⟩) ?_ ?_
      rotate_left
      · intro w'
        go_simp
        with_reducible rfl
      rotate_left
      · simp only [Act.put, List.setIfInBounds_toArray, List.set_cons_zero, List.set_cons_succ, i64_w, i32_w]
        rfl
      refine pure_ (i := 4) (N := some 18) (v := ?_) (a' := ?_) #[true, true, true, true, true, false, false, false, false, false, false, false, false, false, false, false, false, false, false, false, false, false, false, false, false, false, false, false, false, false, false, false, false, false, false, false] rfl rfl (any_of HT_.out (by kernel_rfl)) (fun _ _ _ h => h) (Or.inl ⟨by rfl, ?_⟩) ?_ ?_
      rotate_left
      · intro w'
        go_simp
        with_reducible rfl
      rotate_left
      · simp only [Act.put, List.setIfInBounds_toArray, List.set_cons_zero, List.set_cons_succ, i64_w, i32_w]
        rfl
      refine pure_ (i := 8) (N := some 22) (v := ?_) (a' := ?_) #[true, true, true, true, true, false, false, false, true, false, false, false, false, false, false, false, false, false, false, false, false, false, false, false, false, false, false, false, false, false, false, false, false, false, false, false] rfl rfl (any_of HT_.out (by kernel_rfl)) (fun _ _ _ h => h) (Or.inl ⟨by rfl, ?_⟩) ?_ ?_
      rotate_left
      · intro w'
        go_simp
        with_reducible rfl
      rotate_left
      · simp only [Act.put, List.setIfInBounds_toArray, List.set_cons_zero, List.set_cons_succ, i64_w, i32_w]
        rfl
      refine pure_ (i := 9) (N := some 23) (v := ?_) (a' := ?_) #[true, true, true, true, true, false, false, false, true, true, false, false, false, false, false, false, false, false, false, false, false, false, false, false, false, false, false, false, false, false, false, false, false, false, false, false] rfl rfl (any_of HT_.out (by kernel_rfl)) (fun _ _ _ h => h) (Or.inl ⟨by rfl, ?_⟩) ?_ ?_
      rotate_left
      · intro w'
        go_simp
        with_reducible rfl
      rotate_left
      · simp only [Act.put, List.setIfInBounds_toArray, List.set_cons_zero, List.set_cons_succ, i64_w, i32_w]
        rfl
      refine pure_ (i := 10) (N := some 24) (v := ?_) (a' := ?_) #[true, true, true, true, true, false, false, false, true, true, true, false, false, false, false, false, false, false, false, false, false, false, false, false, false, false, false, false, false, false, false, false, false, false, false, false] rfl rfl (any_of HT_.out (by kernel_rfl)) (fun _ _ _ h => h) (Or.inl ⟨by rfl, ?_⟩) ?_ ?_
      rotate_left
      · intro w'
        go_simp
        with_reducible rfl
      rotate_left
      · simp only [Act.put, List.setIfInBounds_toArray, List.set_cons_zero, List.set_cons_succ, i64_w, i32_w]
        rfl
      refine pure_ (i := 11) (N := some 25) (v := ?_) (a' := ?_) #[true, true, true, true, true, false, false, false, true, true, true, true, false, false, false, false, false, false, false, false, false, false, false, false, false, false, false, false, false, false, false, false, false, false, false, false] rfl rfl (any_of HT_.out (by kernel_rfl)) (fun _ _ _ h => h) (Or.inl ⟨by rfl, ?_⟩) ?_ ?_
      rotate_left
      · intro w'
        go_simp
        with_reducible rfl
      rotate_left
      · simp only [Act.put, List.setIfInBounds_toArray, List.set_cons_zero, List.set_cons_succ, i64_w, i32_w]
        rfl
      refine pure_ (i := 12) (N := some 26) (v := ?_) (a' := ?_) #[true, true, true, true, true, false, false, false, true, true, true, true, true, false, false, false, false, false, false, false, false, false, false, false, false, false, false, false, false, false, false, false, false, false, false, false] rfl rfl (any_of HT_.out (by kernel_rfl)) (fun _ _ _ h => h) (Or.inl ⟨by rfl, ?_⟩) ?_ ?_
      rotate_left
      · intro w'
        go_simp
        with_reducible rfl
      rotate_left
      · simp only [Act.put, List.setIfInBounds_toArray, List.set_cons_zero, List.set_cons_succ, i64_w, i32_w]
        rfl
      refine pure_ (i := 17) (N := some 31) (v := ?_) (a' := ?_) #[true, true, true, true, true, false, false, false, true, true, true, true, true, false, false, false, false, true, false, false, false, false, false, false, false, false, false, false, false, false, false, false, false, false, false, false] rfl rfl (any_of HT_.out (by kernel_rfl)) (fun _ _ _ h => h) (Or.inl ⟨by rfl, ?_⟩) ?_ ?_
      rotate_left
      · intro w'
        go_simp
        with_reducible rfl
      rotate_left
      · simp only [Act.put, List.setIfInBounds_toArray, List.set_cons_zero, List.set_cons_succ, i64_w, i32_w]
        rfl
      refine pure_ (i := 18) (N := some 32) (v := ?_) (a' := ?_) #[true, true, true, true, true, false, false, false, true, true, true, true, true, false, false, false, false, true, true, false, false, false, false, false, false, false, false, false, false, false, false, false, false, false, false, false] rfl rfl (any_of HT_.out (by kernel_rfl)) (fun _ _ _ h => h) (Or.inl ⟨by rfl, ?_⟩) ?_ ?_
      rotate_left
      · intro w'
        go_simp
        with_reducible rfl
      rotate_left
      · simp only [Act.put, List.setIfInBounds_toArray, List.set_cons_zero, List.set_cons_succ, i64_w, i32_w]
        rfl
      refine pure_ (i := 19) (N := some 33) (v := ?_) (a' := ?_) #[true, true, true, true, true, false, false, false, true, true, true, true, true, false, false, false, false, true, true, true, false, false, false, false, false, false, false, false, false, false, false, false, false, false, false, false] rfl rfl (any_of HT_.out (by kernel_rfl)) (fun _ _ _ h => h) (Or.inl ⟨by rfl, ?_⟩) ?_ ?_
      rotate_left
      · intro w'
        go_simp
        with_reducible rfl
      rotate_left
      · simp only [Act.put, List.setIfInBounds_toArray, List.set_cons_zero, List.set_cons_succ, i64_w, i32_w]
        rfl
      refine pure_ (i := 20) (N := some 34) (v := ?_) (a' := ?_) #[true, true, true, true, true, false, false, false, true, true, true, true, true, false, false, false, false, true, true, true, true, false, false, false, false, false, false, false, false, false, false, false, false, false, false, false] rfl rfl (any_of HT_.out (by kernel_rfl)) (fun _ _ _ h => h) (Or.inl ⟨by rfl, ?_⟩) ?_ ?_
      rotate_left
      · intro w'
        go_simp
        with_reducible rfl
      rotate_left
      · simp only [Act.put, List.setIfInBounds_toArray, List.set_cons_zero, List.set_cons_succ, i64_w, i32_w]
        rfl
      refine pure_ (i := 21) (N := some 35) (v := ?_) (a' := ?_) #[true, true, true, true, true, false, false, false, true, true, true, true, true, false, false, false, false, true, true, true, true, true, false, false, false, false, false, false, false, false, false, false, false, false, false, false] rfl rfl (any_of HT_.out (by kernel_rfl)) (fun _ _ _ h => h) (Or.inl ⟨by rfl, ?_⟩) ?_ ?_
      rotate_left
      · intro w'
        go_simp
        with_reducible rfl
      rotate_left
      · simp only [Act.put, List.setIfInBounds_toArray, List.set_cons_zero, List.set_cons_succ, i64_w, i32_w]
        rfl
      refine pure_ (i := 26) (N := some 40) (v := ?_) (a' := ?_) #[true, true, true, true, true, false, false, false, true, true, true, true, true, false, false, false, false, true, true, true, true, true, false, false, false, false, true, false, false, false, false, false, false, false, false, false] rfl rfl (any_of HT_.out (by kernel_rfl)) (fun _ _ _ h => h) (Or.inl ⟨by rfl, ?_⟩) ?_ ?_
      rotate_left
      · intro w'
        go_simp
        with_reducible rfl
      rotate_left
      · simp only [Act.put, List.setIfInBounds_toArray, List.set_cons_zero, List.set_cons_succ, i64_w, i32_w]
        rfl
      refine pure_ (i := 27) (N := some 41) (v := ?_) (a' := ?_) #[true, true, true, true, true, false, false, false, true, true, true, true, true, false, false, false, false, true, true, true, true, true, false, false, false, false, true, true, false, false, false, false, false, false, false, false] rfl rfl (any_of HT_.out (by kernel_rfl)) (fun _ _ _ h => h) (Or.inl ⟨by rfl, ?_⟩) ?_ ?_
      rotate_left
      · intro w'
        go_simp
        with_reducible rfl
      rotate_left
      · simp only [Act.put, List.setIfInBounds_toArray, List.set_cons_zero, List.set_cons_succ, i64_w, i32_w]
        rfl
      refine pure_ (i := 28) (N := some 42) (v := ?_) (a' := ?_) #[true, true, true, true, true, false, false, false, true, true, true, true, true, false, false, false, false, true, true, true, true, true, false, false, false, false, true, true, true, false, false, false, false, false, false, false] rfl rfl (any_of HT_.out (by kernel_rfl)) (fun _ _ _ h => h) (Or.inl ⟨by rfl, ?_⟩) ?_ ?_
      rotate_left
      · intro w'
        go_simp
        with_reducible rfl
      rotate_left
      · simp only [Act.put, List.setIfInBounds_toArray, List.set_cons_zero, List.set_cons_succ, i64_w, i32_w]
        rfl
      refine pure_ (i := 29) (N := some 43) (v := ?_) (a' := ?_) #[true, true, true, true, true, false, false, false, true, true, true, true, true, false, false, false, false, true, true, true, true, true, false, false, false, false, true, true, true, true, false, false, false, false, false, false] rfl rfl (any_of HT_.out (by kernel_rfl)) (fun _ _ _ h => h) (Or.inl ⟨by rfl, ?_⟩) ?_ ?_
      rotate_left
      · intro w'
        go_simp
        with_reducible rfl
      rotate_left
      · simp only [Act.put, List.setIfInBounds_toArray, List.set_cons_zero, List.set_cons_succ, i64_w, i32_w]
        rfl
      refine pure_ (i := 30) (N := some 44) (v := ?_) (a' := ?_) #[true, true, true, true, true, false, false, false, true, true, true, true, true, false, false, false, false, true, true, true, true, true, false, false, false, false, true, true, true, true, true, false, false, false, false, false] rfl rfl (any_of HT_.out (by kernel_rfl)) (fun _ _ _ h => h) (Or.inl ⟨by rfl, ?_⟩) ?_ ?_
      rotate_left
      · intro w'
        go_simp
        with_reducible rfl
      rotate_left
      · simp only [Act.put, List.setIfInBounds_toArray, List.set_cons_zero, List.set_cons_succ, i64_w, i32_w]
        rfl
      refine take_ (i := 5) (N := some 19) (v := ?_) (a' := ?_) #[true, true, true, true, true, true, false, false, true, true, true, true, true, false, false, false, false, true, true, true, true, true, false, false, false, false, true, true, true, true, true, false, false, false, false, false] rfl rfl (take_ofW HT_.out HW_.out (by kernel_rfl)) (fun _ _ _ h => h) (Or.inl ⟨by rfl, ?_⟩) hHeld ?_ ?_
      rotate_left
      · rintro w' ⟨y0, y1, y2, y3⟩
        go_simp
        with_reducible rfl
      rotate_left
      · simp only [Act.put, List.setIfInBounds_toArray, List.set_cons_zero, List.set_cons_succ, i64_w, i32_w]
        rfl
      refine take_ (i := 13) (N := some 27) (v := ?_) (a' := ?_) #[true, true, true, true, true, true, false, false, true, true, true, true, true, true, false, false, false, true, true, true, true, true, false, false, false, false, true, true, true, true, true, false, false, false, false, false] rfl rfl (take_ofW HT_.out HW_.out (by kernel_rfl)) (fun _ _ _ h => h) (Or.inl ⟨by rfl, ?_⟩) hHeld ?_ ?_
      rotate_left
      · rintro w' ⟨y0, y1, y2, y3⟩
        go_simp
        with_reducible rfl
      rotate_left
      · simp only [Act.put, List.setIfInBounds_toArray, List.set_cons_zero, List.set_cons_succ, i64_w, i32_w]
        rfl
      refine take_ (i := 22) (N := some 36) (v := ?_) (a' := ?_) #[true, true, true, true, true, true, false, false, true, true, true, true, true, true, false, false, false, true, true, true, true, true, true, false, false, false, true, true, true, true, true, false, false, false, false, false] rfl rfl (take_ofW HT_.out HW_.out (by kernel_rfl)) (fun _ _ _ h => h) (Or.inl ⟨by rfl, ?_⟩) hHeld ?_ ?_
      rotate_left
      · rintro w' ⟨y0, y1, y2, y3⟩
        go_simp
        with_reducible rfl
      rotate_left
      · simp only [Act.put, List.setIfInBounds_toArray, List.set_cons_zero, List.set_cons_succ, i64_w, i32_w]
        rfl
      refine take_ (i := 31) (N := some 45) (v := ?_) (a' := ?_) #[true, true, true, true, true, true, false, false, true, true, true, true, true, true, false, false, false, true, true, true, true, true, true, false, false, false, true, true, true, true, true, true, false, false, false, false] rfl rfl (take_ofW HT_.out HW_.out (by kernel_rfl)) (fun _ _ _ h => h) (Or.inl ⟨by rfl, ?_⟩) hHeld ?_ ?_
      rotate_left
      · rintro w' ⟨y0, y1, y2, y3⟩
        go_simp
        with_reducible rfl
      rotate_left
      · simp only [Act.put, List.setIfInBounds_toArray, List.set_cons_zero, List.set_cons_succ, i64_w, i32_w]
        rfl
      refine pure_ (i := 6) (N := some 20) (v := ?_) (a' := ?_) #[true, true, true, true, true, true, true, false, true, true, true, true, true, true, false, false, false, true, true, true, true, true, true, false, false, false, true, true, true, true, true, true, false, false, false, false] rfl rfl (any_of HT_.out (by kernel_rfl)) (fun _ _ _ h => h) (Or.inl ⟨by rfl, ?_⟩) ?_ ?_
      rotate_left
      · intro w'
        go_simp
        with_reducible rfl
      rotate_left
      · simp only [Act.put, List.setIfInBounds_toArray, List.set_cons_zero, List.set_cons_succ, i64_w, i32_w]
        rfl
      refine pure_ (i := 7) (N := some 21) (v := ?_) (a' := ?_) #[true, true, true, true, true, true, true, true, true, true, true, true, true, true, false, false, false, true, true, true, true, true, true, false, false, false, true, true, true, true, true, true, false, false, false, false] rfl rfl (any_of HT_.out (by kernel_rfl)) (fun _ _ _ h => h) (Or.inl ⟨by rfl, ?_⟩) ?_ ?_
      rotate_left
      · intro w'
        go_simp
        with_reducible rfl
      rotate_left
      · simp only [Act.put, List.setIfInBounds_toArray, List.set_cons_zero, List.set_cons_succ, i64_w, i32_w]
        rfl
      refine pure_ (i := 14) (N := some 28) (v := ?_) (a' := ?_) #[true, true, true, true, true, true, true, true, true, true, true, true, true, true, true, false, false, true, true, true, true, true, true, false, false, false, true, true, true, true, true, true, false, false, false, false] rfl rfl (any_of HT_.out (by kernel_rfl)) (fun _ _ _ h => h) (Or.inl ⟨by rfl, ?_⟩) ?_ ?_
      rotate_left
      · intro w'
        go_simp
        with_reducible rfl
      rotate_left
      · simp only [Act.put, List.setIfInBounds_toArray, List.set_cons_zero, List.set_cons_succ, i64_w, i32_w]
        rfl
      refine pure_ (i := 15) (N := some 29) (v := ?_) (a' := ?_) #[true, true, true, true, true, true, true, true, true, true, true, true, true, true, true, true, false, true, true, true, true, true, true, false, false, false, true, true, true, true, true, true, false, false, false, false] rfl rfl (any_of HT_.out (by kernel_rfl)) (fun _ _ _ h => h) (Or.inl ⟨by rfl, ?_⟩) ?_ ?_
      rotate_left
      · intro w'
        go_simp
        with_reducible rfl
      rotate_left
      · simp only [Act.put, List.setIfInBounds_toArray, List.set_cons_zero, List.set_cons_succ, i64_w, i32_w]
        rfl
      refine pure_ (i := 16) (N := some 30) (v := ?_) (a' := ?_) #[true, true, true, true, true, true, true, true, true, true, true, true, true, true, true, true, true, true, true, true, true, true, true, false, false, false, true, true, true, true, true, true, false, false, false, false] rfl rfl (any_of HT_.out (by kernel_rfl)) (fun _ _ _ h => h) (Or.inl ⟨by rfl, ?_⟩) ?_ ?_
      rotate_left
      · intro w'
        go_simp
        with_reducible rfl
      rotate_left
      · simp only [Act.put, List.setIfInBounds_toArray, List.set_cons_zero, List.set_cons_succ, i64_w, i32_w]
        rfl
      refine pure_ (i := 23) (N := some 37) (v := ?_) (a' := ?_) #[true, true, true, true, true, true, true, true, true, true, true, true, true, true, true, true, true, true, true, true, true, true, true, true, false, false, true, true, true, true, true, true, false, false, false, false] rfl rfl (any_of HT_.out (by kernel_rfl)) (fun _ _ _ h => h) (Or.inl ⟨by rfl, ?_⟩) ?_ ?_
      rotate_left
      · intro w'
        go_simp
        with_reducible rfl
      rotate_left
      · simp only [Act.put, List.setIfInBounds_toArray, List.set_cons_zero, List.set_cons_succ, i64_w, i32_w]
        rfl
      refine pure_ (i := 24) (N := some 38) (v := ?_) (a' := ?_) #[true, true, true, true, true, true, true, true, true, true, true, true, true, true, true, true, true, true, true, true, true, true, true, true, true, false, true, true, true, true, true, true, false, false, false, false] rfl rfl (any_of HT_.out (by kernel_rfl)) (fun _ _ _ h => h) (Or.inl ⟨by rfl, ?_⟩) ?_ ?_
      rotate_left
      · intro w'
        go_simp
        with_reducible rfl
      rotate_left
      · simp only [Act.put, List.setIfInBounds_toArray, List.set_cons_zero, List.set_cons_succ, i64_w, i32_w]
        rfl
      refine pure_ (i := 25) (N := some 39) (v := ?_) (a' := ?_) #[true, true, true, true, true, true, true, true, true, true, true, true, true, true, true, true, true, true, true, true, true, true, true, true, true, true, true, true, true, true, true, true, false, false, false, false] rfl rfl (any_of HT_.out (by kernel_rfl)) (fun _ _ _ h => h) (Or.inl ⟨by rfl, ?_⟩) ?_ ?_
      rotate_left
      · intro w'
        go_simp
        with_reducible rfl
      rotate_left
      · simp only [Act.put, List.setIfInBounds_toArray, List.set_cons_zero, List.set_cons_succ, i64_w, i32_w]
        rfl
      refine pure_ (i := 32) (N := some 46) (v := ?_) (a' := ?_) #[true, true, true, true, true, true, true, true, true, true, true, true, true, true, true, true, true, true, true, true, true, true, true, true, true, true, true, true, true, true, true, true, true, false, false, false] rfl rfl (any_of HT_.out (by kernel_rfl)) (fun _ _ _ h => h) (Or.inl ⟨by rfl, ?_⟩) ?_ ?_
      rotate_left
      · intro w'
        go_simp
        with_reducible rfl
      rotate_left
      · simp only [Act.put, List.setIfInBounds_toArray, List.set_cons_zero, List.set_cons_succ, i64_w, i32_w]
        rfl
      refine pure_ (i := 33) (N := some 47) (v := ?_) (a' := ?_) #[true, true, true, true, true, true, true, true, true, true, true, true, true, true, true, true, true, true, true, true, true, true, true, true, true, true, true, true, true, true, true, true, true, true, false, false] rfl rfl (any_of HT_.out (by kernel_rfl)) (fun _ _ _ h => h) (Or.inl ⟨by rfl, ?_⟩) ?_ ?_
      rotate_left
      · intro w'
        go_simp
        with_reducible rfl
      rotate_left
      · simp only [Act.put, List.setIfInBounds_toArray, List.set_cons_zero, List.set_cons_succ, i64_w, i32_w]
        rfl
      refine pure_ (i := 34) (N := some 48) (v := ?_) (a' := ?_) #[true, true, true, true, true, true, true, true, true, true, true, true, true, true, true, true, true, true, true, true, true, true, true, true, true, true, true, true, true, true, true, true, true, true, true, false] rfl rfl (any_of HT_.out (by kernel_rfl)) (fun _ _ _ h => h) (Or.inl ⟨by rfl, ?_⟩) ?_ ?_
      rotate_left
      · intro w'
        go_simp
        with_reducible rfl
      rotate_left
      · simp only [Act.put, List.setIfInBounds_toArray, List.set_cons_zero, List.set_cons_succ, i64_w, i32_w]
        rfl
      refine last_ (i := 35) (N := none) #[true, true, true, true, true, true, true, true, true, true, true, true, true, true, true, true, true, true, true, true, true, true, true, true, true, true, true, true, true, true, true, true, true, true, true, true] rfl rfl (one_of HT_.out (by kernel_rfl)) (by decide) (fun K hK => ?_)
      have hz : wR.cell? ⟨g3, n, none⟩ = some (.int .u32 0) := (blk_cell B3.out n).trans (row_new 64 _ n (by rw [wl_len]; exact Nat.le_refl _) hn64)
      have hf := blk_frozen B3.out n
      refine skip_ (w1 := ?_) (by rfl) rfl ?_ ?_
      rotate_left
      · go_simp
        rfl
      refine hK.out _ _ ?_
      clear hK K
      refine done_ (done_of HT_.out (by kernel_rfl)) ?_
      go_wp2
      go_roundw
      case rel => exact ⟨n + 1, by omega, by go_num, ⟨blk_far B2.out (p := ⟨g3, n, none⟩) N23'.out _⟩, ⟨by rw [HJ0.out, HJ1.out, HJ2.out, HJ3.out]; exact blk_put B3.out n _ (row_set' 64 _ n _ (wl_len _ _) hn64 |>.trans (by rw [wl_succ, if_pos hlt]; rfl))⟩, ⟨below_set' D0.out G3.out⟩⟩
      case measure => simp [intOf]; omega
    · have hn16 : n = 16 := by omega
      have q16 : ((n : Int) < 16) = False := eq_false (by omega)
      have B3' := B3
      rw [hn16] at B3'
      clear hlt hn hn16 B3
      go_wp2
      clear q16
      go_loopw [5] (fun i W => ∃ n : Nat, 16 ≤ n ∧ n ≤ 64 ∧ i = .int .i64 n ∧ Aside0 (W.heap[g2]? = some (.cells (row 64 []) 51 (0, 0))) ∧ Aside0 (W.heap[g3]? = some (.cells (row 64 (wl l n)) 51 (0, 0))) ∧ Aside0 (Below w.heap.size w W)) (fun i _ => 64 - (intOf i).toNat)
      case atStart => exact ⟨16, by omega, by omega, rfl, B2, B3', D0⟩
      case round =>
        clear B2 B3' D0
        obtain ⟨n, h16, hn, rfl, B2, B3, D0⟩ := hrel
        by_cases hlt : n < 64
        · have hn64 : n < 64 := hlt
          have h16' : ¬ n < 16 := by omega
          have pn : (0 ≤ (n : Int)) = True := eq_true (by omega)
          have qn : ((n : Int) < 64) = True := eq_true (by omega)
          obtain ⟨m15, hm15⟩ : ∃ j, j = n - 15 := ⟨_, rfl⟩
          obtain ⟨m2, hm2⟩ : ∃ j, j = n - 2 := ⟨_, rfl⟩
          obtain ⟨m7, hm7⟩ : ∃ j, j = n - 7 := ⟨_, rfl⟩
          obtain ⟨m16, hm16⟩ : ∃ j, j = n - 16 := ⟨_, rfl⟩
          have e15 : wrap64 ((n : Int) - 15) = (m15 : Int) := by unfold wrap64; omega
          have e2 : wrap64 ((n : Int) - 2) = (m2 : Int) := by unfold wrap64; omega
          have e7 : wrap64 ((n : Int) - 7) = (m7 : Int) := by unfold wrap64; omega
          have e16 : wrap64 ((n : Int) - 16) = (m16 : Int) := by unfold wrap64; omega
          have l15 : m15 < n := by omega
          have l2 : m2 < n := by omega
          have l7 : m7 < n := by omega
          have l16 : m16 < n := by omega
          have k15 : ((m15 : Int) < 64) = True := eq_true (by omega)
          have k2 : ((m2 : Int) < 64) = True := eq_true (by omega)
          have k7 : ((m7 : Int) < 64) = True := eq_true (by omega)
          have k16 : ((m16 : Int) < 64) = True := eq_true (by omega)
          have HM15 := Aside0.mk hm15
          have HM2 := Aside0.mk hm2
          have HM7 := Aside0.mk hm7
          have HM16 := Aside0.mk hm16
          clear hm15 hm2 hm7 hm16 h16
          have y15 : wr.cell? ⟨g3, m15, none⟩ = some (.int .u32 (enc ((wl l n).getD m15 0))) := (blk_cell B3.out m15).trans (row_at 64 _ m15 (by rw [wl_len]; omega))
          have y2 : wr.cell? ⟨g3, m2, none⟩ = some (.int .u32 (enc ((wl l n).getD m2 0))) := (blk_cell B3.out m2).trans (row_at 64 _ m2 (by rw [wl_len]; omega))
          have y15' : wr.cell? ⟨g3, n - 15, none⟩ = some (.int .u32 (enc ((wl l n).getD m15 0))) := by rw [← HM15.out]; exact y15
          have y2' : wr.cell? ⟨g3, n - 2, none⟩ = some (.int .u32 (enc ((wl l n).getD m2 0))) := by rw [← HM2.out]; exact y2
          go_upto_region 12 with (first | (go_at_call 39; (with_reducible refine (right_calls7 _ _).mono ?_); rintro e w2 ⟨rfl, hd⟩; have n_B2 := Aside0.mk (blk_below B2.out hd); have n_B3 := Aside0.mk (blk_below B3.out hd); have n_D0 := Aside0.mk (below_step D0.out hd); clear B2 B3 D0; have B2 := n_B2; have B3 := n_B3; have D0 := n_D0; clear n_B2 n_B3 n_D0 hd) | (go_at_call 39; (with_reducible refine (right_calls18 _ _).mono ?_); rintro e w2 ⟨rfl, hd⟩; have n_B2 := Aside0.mk (blk_below B2.out hd); have n_B3 := Aside0.mk (blk_below B3.out hd); have n_D0 := Aside0.mk (below_step D0.out hd); clear B2 B3 D0; have B2 := n_B2; have B3 := n_B3; have D0 := n_D0; clear n_B2 n_B3 n_D0 hd))
          go_upto_region 13 with (first | (go_at_call 39; (with_reducible refine (right_calls17 _ _).mono ?_); rintro e w2 ⟨rfl, hd⟩; have n_B2 := Aside0.mk (blk_below B2.out hd); have n_B3 := Aside0.mk (blk_below B3.out hd); have n_D0 := Aside0.mk (below_step D0.out hd); clear B2 B3 D0; have B2 := n_B2; have B3 := n_B3; have D0 := n_D0; clear n_B2 n_B3 n_D0 hd) | (go_at_call 39; (with_reducible refine (right_calls19 _ _).mono ?_); rintro e w2 ⟨rfl, hd⟩; have n_B2 := Aside0.mk (blk_below B2.out hd); have n_B3 := Aside0.mk (blk_below B3.out hd); have n_D0 := Aside0.mk (below_step D0.out hd); clear B2 B3 D0; have B2 := n_B2; have B3 := n_B3; have D0 := n_D0; clear n_B2 n_B3 n_D0 hd))
          refine start_ (n := 16) (S := fun W => ∃ ws, W.heap[g3]? = some (.cells (row 64 (wl l n ++ ws)) 51 (0, 0))) (ds := [15]) #[false, false, false, false, false, false, false, false, false, false, false, false, false, false, false, false] (by kernel_rfl) rfl rfl ⟨[], by rw [List.append_nil]; exact blk_drew B3.out⟩ (fun hHeld => ?_); refine with_tabW wor.tab13 wor.bits13 (fun HT_ HW_ => ?_)
          have n_B2 := Aside0.mk (blk_drew B2.out)
          have n_B3 := Aside0.mk (blk_drew B3.out)
          have n_D0 := Aside0.mk (below_drew1 D0.out)
          clear B2 B3 D0
          have B2 := n_B2
          have B3 := n_B3
          have D0 := n_D0
          clear n_B2 n_B3 n_D0
          generalize World.drew _ = wR at B2 B3 D0 hHeld ⊢
          refine pure_ (i := 0) (N := some 77) (v := ?_) (a' := ?_) #[true, false, false, false, false, false, false, false, false, false, false, false, false, false, false, false] rfl rfl (any_of HT_.out (by kernel_rfl)) (fun _ _ _ h => h) (Or.inl ⟨by rfl, ?_⟩) ?_ ?_
          rotate_left
          · intro w'
            go_simp
            with_reducible rfl
          rotate_left
          · simp only [Act.put, List.setIfInBounds_toArray, List.set_cons_zero, List.set_cons_succ, i64_w, i32_w]
            rfl
          refine pure_ (i := 1) (N := some 78) (v := ?_) (a' := ?_) #[true, true, false, false, false, false, false, false, false, false, false, false, false, false, false, false] rfl rfl (any_of HT_.out (by kernel_rfl)) (fun _ _ _ h => h) (Or.inl ⟨by rfl, ?_⟩) ?_ ?_
          rotate_left
          · intro w'
            go_simp
            with_reducible rfl
          rotate_left
          · simp only [Act.put, List.setIfInBounds_toArray, List.set_cons_zero, List.set_cons_succ, i64_w, i32_w]
            rfl
          refine pure_ (i := 2) (N := some 79) (v := ?_) (a' := ?_) #[true, true, true, false, false, false, false, false, false, false, false, false, false, false, false, false] rfl rfl (any_of HT_.out (by kernel_rfl)) (fun _ _ _ h => h) (Or.inl ⟨by rfl, ?_⟩) ?_ ?_
          rotate_left
          · intro w'
            go_simp
            with_reducible rfl
          rotate_left
          · simp only [Act.put, List.setIfInBounds_toArray, List.set_cons_zero, List.set_cons_succ, i64_w, i32_w]
            rfl
          refine pure_ (i := 3) (N := some 80) (v := ?_) (a' := ?_) #[true, true, true, true, false, false, false, false, false, false, false, false, false, false, false, false] rfl rfl (any_of HT_.out (by kernel_rfl)) (fun _ _ _ h => h) (Or.inl ⟨by rfl, ?_⟩) ?_ ?_
          rotate_left
          · intro w'
            go_simp
            with_reducible rfl
          rotate_left
          · simp only [Act.put, List.setIfInBounds_toArray, List.set_cons_zero, List.set_cons_succ, i64_w, i32_w]
            rfl
          refine pure_ (i := 4) (N := some 81) (v := ?_) (a' := ?_) #[true, true, true, true, true, false, false, false, false, false, false, false, false, false, false, false] rfl rfl (any_of HT_.out (by kernel_rfl)) (fun _ _ _ h => h) (Or.inl ⟨by rfl, ?_⟩) ?_ ?_
          rotate_left
          · intro w'
            go_simp
            with_reducible rfl
          rotate_left
          · simp only [Act.put, List.setIfInBounds_toArray, List.set_cons_zero, List.set_cons_succ, i64_w, i32_w]
            rfl
          refine pure_ (i := 7) (N := some 84) (v := ?_) (a' := ?_) #[true, true, true, true, true, false, false, true, false, false, false, false, false, false, false, false] rfl rfl (any_of HT_.out (by kernel_rfl)) (fun _ _ _ h => h) (Or.inl ⟨by rfl, ?_⟩) ?_ ?_
          rotate_left
          · intro w'
            go_simp
            with_reducible rfl
          rotate_left
          · simp only [Act.put, List.setIfInBounds_toArray, List.set_cons_zero, List.set_cons_succ, i64_w, i32_w]
            rfl
          refine pure_ (i := 9) (N := some 86) (v := ?_) (a' := ?_) #[true, true, true, true, true, false, false, true, false, true, false, false, false, false, false, false] rfl rfl (any_of HT_.out (by kernel_rfl)) (fun _ _ _ h => h) (Or.inl ⟨by rfl, ?_⟩) ?_ ?_
          rotate_left
          · intro w'
            go_simp
            with_reducible rfl
          rotate_left
          · simp only [Act.put, List.setIfInBounds_toArray, List.set_cons_zero, List.set_cons_succ, i64_w, i32_w]
            rfl
          refine pure_ (i := 10) (N := some 87) (v := ?_) (a' := ?_) #[true, true, true, true, true, false, false, true, false, true, true, false, false, false, false, false] rfl rfl (any_of HT_.out (by kernel_rfl)) (fun _ _ _ h => h) (Or.inl ⟨by rfl, ?_⟩) ?_ ?_
          rotate_left
          · intro w'
            go_simp
            with_reducible rfl
          rotate_left
          · simp only [Act.put, List.setIfInBounds_toArray, List.set_cons_zero, List.set_cons_succ, i64_w, i32_w]
            rfl
          refine pure_ (i := 11) (N := some 88) (v := ?_) (a' := ?_) #[true, true, true, true, true, false, false, true, false, true, true, true, false, false, false, false] rfl rfl (any_of HT_.out (by kernel_rfl)) (fun _ _ _ h => h) (Or.inl ⟨by rfl, ?_⟩) ?_ ?_
          rotate_left
          · intro w'
            go_simp
            with_reducible rfl
          rotate_left
          · simp only [Act.put, List.setIfInBounds_toArray, List.set_cons_zero, List.set_cons_succ, i64_w, i32_w]
            rfl
          refine take_ (i := 5) (N := some 82) (v := ?_) (a' := ?_) #[true, true, true, true, true, true, false, true, false, true, true, true, false, false, false, false] rfl rfl (take_ofW HT_.out HW_.out (by kernel_rfl)) (fun _ _ _ h => h) (Or.inl ⟨by rfl, ?_⟩) hHeld ?_ ?_
          rotate_left
          · rintro w' ⟨ws, s0⟩
            have y7 := (blk_cell s0 m7).trans (row_at' 64 _ ws m7 (by rw [wl_len]; omega))
            have y16 := (blk_cell s0 m16).trans (row_at' 64 _ ws m16 (by rw [wl_len]; omega))
            go_simp
            with_reducible rfl
          rotate_left
          · simp only [Act.put, List.setIfInBounds_toArray, List.set_cons_zero, List.set_cons_succ, i64_w, i32_w]
            rfl
          refine take_ (i := 12) (N := some 89) (v := ?_) (a' := ?_) #[true, true, true, true, true, true, false, true, false, true, true, true, true, false, false, false] rfl rfl (take_ofW HT_.out HW_.out (by kernel_rfl)) (fun _ _ _ h => h) (Or.inl ⟨by rfl, ?_⟩) hHeld ?_ ?_
          rotate_left
          · rintro w' ⟨ws, s0⟩
            have y7 := (blk_cell s0 m7).trans (row_at' 64 _ ws m7 (by rw [wl_len]; omega))
            have y16 := (blk_cell s0 m16).trans (row_at' 64 _ ws m16 (by rw [wl_len]; omega))
            go_simp
            with_reducible rfl
          rotate_left
          · simp only [Act.put, List.setIfInBounds_toArray, List.set_cons_zero, List.set_cons_succ, i64_w, i32_w]
            rfl
          refine pure_ (i := 6) (N := some 83) (v := ?_) (a' := ?_) #[true, true, true, true, true, true, true, true, false, true, true, true, true, false, false, false] rfl rfl (any_of HT_.out (by kernel_rfl)) (fun _ _ _ h => h) (Or.inl ⟨by rfl, ?_⟩) ?_ ?_
          rotate_left
          · intro w'
            go_simp
            with_reducible rfl
          rotate_left
          · simp only [Act.put, List.setIfInBounds_toArray, List.set_cons_zero, List.set_cons_succ, i64_w, i32_w]
            rfl
          refine pure_ (i := 8) (N := some 85) (v := ?_) (a' := ?_) #[true, true, true, true, true, true, true, true, true, true, true, true, true, false, false, false] rfl rfl (any_of HT_.out (by kernel_rfl)) (fun _ _ _ h => h) (Or.inl ⟨by rfl, ?_⟩) ?_ ?_
          rotate_left
          · intro w'
            go_simp
            with_reducible rfl
          rotate_left
          · simp only [Act.put, List.setIfInBounds_toArray, List.set_cons_zero, List.set_cons_succ, i64_w, i32_w]
            rfl
          refine pure_ (i := 13) (N := some 90) (v := ?_) (a' := ?_) #[true, true, true, true, true, true, true, true, true, true, true, true, true, true, false, false] rfl rfl (any_of HT_.out (by kernel_rfl)) (fun _ _ _ h => h) (Or.inl ⟨by rfl, ?_⟩) ?_ ?_
          rotate_left
          · intro w'
            go_simp
            with_reducible rfl
          rotate_left
          · simp only [Act.put, List.setIfInBounds_toArray, List.set_cons_zero, List.set_cons_succ, i64_w, i32_w]
            rfl
          refine pure_ (i := 14) (N := some 91) (v := ?_) (a' := ?_) #[true, true, true, true, true, true, true, true, true, true, true, true, true, true, true, false] rfl rfl (any_of HT_.out (by kernel_rfl)) (fun _ _ _ h => h) (Or.inl ⟨by rfl, ?_⟩) ?_ ?_
          rotate_left
          · intro w'
            go_simp
            with_reducible rfl
          rotate_left
          · simp only [Act.put, List.setIfInBounds_toArray, List.set_cons_zero, List.set_cons_succ, i64_w, i32_w]
            rfl
          refine last_ (i := 15) (N := none) #[true, true, true, true, true, true, true, true, true, true, true, true, true, true, true, true] rfl rfl (one_of HT_.out (by kernel_rfl)) (by decide) (fun K hK => ?_)
          have hz : wR.cell? ⟨g3, n, none⟩ = some (.int .u32 0) := (blk_cell B3.out n).trans (row_new 64 _ n (by rw [wl_len]; exact Nat.le_refl _) hn64)
          have hf := blk_frozen B3.out n
          refine skip_ (w1 := ?_) (by rfl) rfl ?_ ?_
          rotate_left
          · go_simp
            rfl
          refine hK.out _ _ ?_
          clear hK K
          refine done_ (done_of HT_.out (by kernel_rfl)) ?_
          go_wp2
          go_roundw
          case rel => exact ⟨n + 1, by omega, by omega, by go_num, ⟨blk_far B2.out (p := ⟨g3, n, none⟩) N23'.out _⟩, ⟨by rw [wl_succ, if_neg h16']; exact blk_put B3.out n _ (by have hv := nx_get (wl l n) n m2 m7 m15 m16 HM2.out HM7.out HM15.out HM16.out; unfold s1w s0w at hv; rw [hv]; exact row_set' 64 _ n _ (wl_len _ _) hn64)⟩, ⟨below_set' D0.out G3.out⟩⟩
          case measure => simp [intOf]; omega
        · obtain rfl : n = 64 := by omega
          have q64 : (((64 : Nat) : Int) < 64) = False := eq_false (by omega)
          go_upto_region 14 with (fail)
          have i47 : (Try.prog.info? 51).map (·.size) = some 64 := by kernel_rfl
          have hs := row_size 64 (wl l 64) (by rw [wl_len]; exact Nat.le_refl _)
          have hs0 := row_size 64 [] (Nat.zero_le _)
          go_wp2_with (first
            | ((with_reducible refine gate_dst (N := 92) rfl ?_); refine wpList_load_row rfl 51 (.tmp 3) rfl g3 rfl 51 (row 64 (wl l 64)) (0, 0) _ B3.out Try.underlying51 rfl (by rw [hs]; exact i47) ?_)
            | ((with_reducible refine gate_store rfl ?_); refine wpList_store_row rfl 51 (.tmp 2) (.tmp 92) rfl g2 (row 64 (wl l 64)) rfl rfl 51 (row 64 []) B2.out (by rw [hs]; exact i47) (by rw [hs, hs0]) (row_one _ _) ?_))
          refine bodyPost_ret (results_cell_row (fn := Try.f38) rfl _ _ g2 51 (row 64 (wl l 64)) (0, 0) _ rfl (setRow_heap _ g2 _ _ 51 _ B2.out) Try.underlying51 rfl (by rw [hs]; exact i47)) rfl ?_
          exact ⟨by rw [row_full _ _ (wl_len _ _)], below_setRow D0.out G2'.out _⟩
end Go.Proofs.Ythpnppfpmhlkaaa.Sha
