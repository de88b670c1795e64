/- Chapter 3: Leaf and Node, of the program and of the document. -/
import Derived.Test.YthpnppfpmhlkaaaShaO
namespace Go.Proofs.Ythpnppfpmhlkaaa.Sha
open Go.RowKit Go.Proofs.Ythpnppfpmhlkaaa.X Go.Proofs.YthpnppfpmhlkaaaW.PrintWords Go.Proofs.YthpnppfpmhlkaaaW.PrintLast Go.Proofs.YthpnppfpmhlkaaaW.PrintMore
set_option linter.unusedVariables false
set_option linter.unusedSimpArgs false

theorem B32_brw (x : List UInt8) (hx : x.length = 32) : B32 x = .agg (brw 32 x) := by unfold B32; rw [row_of_bytes x hx]
theorem tx_of (s : ByteArray) : ∃ l : List UInt8, s = tx l ∧ l.length = s.size := ⟨s.data.toList, (tx_toList s).symm, Array.length_toList⟩
/-- A hash as a text. -/
theorem text_hash {W : World} {g : Nat} {x : List UInt8} (hx : x.length = 32) (h : W.heap[g]? = some (.cells (brw 32 x) 23 (0, 0))) : (convert 44 9 (.slice (some ⟨g, 0, none⟩) 32 32)).run Try.prog W = .ok (.string (tx x)) W := by
  have := run_convert_bytes_back W 44 9 5 ⟨g, 0, none⟩ 32 x Try.underlying44 Try.underlying5 Try.underlying9 (fun j hj => by
    have hadd : (⟨g, 0, none⟩ : Addr).add j = ⟨g, j, none⟩ := by unfold Addr.add; split <;> simp_all
    rw [hadd, blk_cell h, brw_at 32 x j hj, List.getD_eq_getElem?_getD, List.getElem?_eq_getElem hj]; rfl)
  rw [hx] at this
  exact this
def leafF (l : List UInt8) : List UInt8 := sumF (0 :: l)
def nodeF (x y : List UInt8) : List UInt8 := sumF (1 :: (x ++ y))
theorem leafF_len (l : List UInt8) : (leafF l).length = 32 := sumF_len _
theorem nodeF_len (x y : List UInt8) : (nodeF x y).length = 32 := sumF_len _
set_option maxHeartbeats 8000000 in
set_option maxRecDepth 100000 in
theorem leaf_calls (l : List UInt8) (w : World) (hl : l.length ≤ 140737488355000) :
    Calls Try.prog 12 #[.string (tx l)] w fun e w' => e = .returned (B32 (leafF l)) ∧ Below w.heap.size w w' := by
  have i23 : (Try.prog.info? 23).map (·.size) = some 32 := by kernel_rfl
  obtain ⟨X, hX⟩ : ∃ X, X = tx (0 :: l) := ⟨_, rfl⟩
  obtain ⟨T, hT⟩ : ∃ T, T = tx l := ⟨_, rfl⟩
  have hTs : T.size = l.length := by rw [hT, tx_size]
  have hXa : (⟨#[0]⟩ : ByteArray) ++ T = X := by rw [hX, hT]; exact tx_append [0] l
  obtain ⟨S, hS⟩ : ∃ S, S = leafF l := ⟨_, rfl⟩
  have hS32 : S.length = 32 := by rw [hS]; exact leafF_len l
  have HC : ∀ W : World, Calls Try.prog 22 #[.string X] W fun e w' => e = .returned (.agg (brw 32 S)) ∧ Below W.heap.size W w' := fun W => by rw [← B32_brw S hS32, hX, hS]; exact sum_calls (0 :: l) W (by rw [List.length_cons]; omega)
  have hz : (brw 32 S).size = 32 := brw_size 32 S (by omega)
  have hz0 : (brw 32 []).size = 32 := rfl
  have t1 : (1 + l.length ≤ 9223372036854775807) = True := eq_true (by omega)
  have t2 : (9223372036854775807 < 1 + l.length) = False := eq_false (by omega)
  rw [← hT, ← hS, B32_brw S hS32]
  clear hT hX hS hl
  go_enter Try.func12, Try.ntmps12
  go_upto_region 1 with (fail)
  change Code.wp _ _ _ _ (w.alloc (.cells (brw 32 []) 23))
  have C2 : Aside0 ((w.alloc (.cells (brw 32 []) 23)).heap[w.heap.size]? = some (.cells (brw 32 []) 23 (0, 0))) := ⟨blk_new _ _⟩
  have D0 := Aside0.mk (below_alloc (Below.refl w.heap.size w) (.cells (brw 32 []) 23))
  generalize w.alloc (.cells (brw 32 []) 23) = w1 at C2 D0 ⊢
  go_wp2_with (first
    | (go_at_call 22; (with_reducible refine (HC _).mono ?_); rintro e w2 ⟨rfl, hb⟩; have n_C2 := Aside0.mk (blk_below C2.out hb); have n_D0 := Aside0.mk (below_then D0.out D0.out.size hb); clear C2 D0 hb; have C2 := n_C2; have D0 := n_D0; clear n_C2 n_D0)
    | ((with_reducible refine gate_store rfl ?_); refine wpList_store_row rfl 23 (.tmp 2) (.tmp 5) rfl w.heap.size (brw 32 S) rfl rfl 23 (brw 32 []) C2.out (by rw [hz]; exact i23) (by rw [hz, hz0]) (brw_one _ _) ?_))
  refine bodyPost_ret (results_cell_row (fn := Try.f12) rfl _ _ w.heap.size 23 (brw 32 S) (0, 0) _ rfl (setRow_heap _ w.heap.size _ _ 23 _ C2.out) Try.underlying23 rfl (by rw [hz]; exact i23)) rfl ?_
  exact ⟨rfl, below_setRow D0.out (Nat.le_refl _) _⟩
set_option maxHeartbeats 8000000 in
set_option maxRecDepth 100000 in
theorem rleaf_calls (l : List UInt8) (w : World) (hl : l.length ≤ 140737488355000) :
    Calls Try.prog 13 #[.string (tx l)] w fun e w' => e = .returned (B32 (leafF l)) ∧ Below w.heap.size w w' := by
  have i23 : (Try.prog.info? 23).map (·.size) = some 32 := by kernel_rfl
  obtain ⟨X, hX⟩ : ∃ X, X = tx (0 :: l) := ⟨_, rfl⟩
  obtain ⟨T, hT⟩ : ∃ T, T = tx l := ⟨_, rfl⟩
  have hTs : T.size = l.length := by rw [hT, tx_size]
  have hXa : (⟨#[0]⟩ : ByteArray) ++ T = X := by rw [hX, hT]; exact tx_append [0] l
  obtain ⟨S, hS⟩ : ∃ S, S = leafF l := ⟨_, rfl⟩
  have hS32 : S.length = 32 := by rw [hS]; exact leafF_len l
  have HC : ∀ W : World, Calls Try.prog 25 #[.string X] W fun e w' => e = .returned (.agg (brw 32 S)) ∧ Below W.heap.size W w' := fun W => by rw [← B32_brw S hS32, hX, hS]; exact rsum_calls (0 :: l) W (by rw [List.length_cons]; omega)
  have hz : (brw 32 S).size = 32 := brw_size 32 S (by omega)
  have hz0 : (brw 32 []).size = 32 := rfl
  have t1 : (1 + l.length ≤ 9223372036854775807) = True := eq_true (by omega)
  have t2 : (9223372036854775807 < 1 + l.length) = False := eq_false (by omega)
  rw [← hT, ← hS, B32_brw S hS32]
  clear hT hX hS hl
  go_enter Try.func13, Try.ntmps13
  go_upto_region 1 with (fail)
  change Code.wp _ _ _ _ (w.alloc (.cells (brw 32 []) 23))
  have C2 : Aside0 ((w.alloc (.cells (brw 32 []) 23)).heap[w.heap.size]? = some (.cells (brw 32 []) 23 (0, 0))) := ⟨blk_new _ _⟩
  have D0 := Aside0.mk (below_alloc (Below.refl w.heap.size w) (.cells (brw 32 []) 23))
  generalize w.alloc (.cells (brw 32 []) 23) = w1 at C2 D0 ⊢
  go_wp2_with (first
    | (go_at_call 25; (with_reducible refine (HC _).mono ?_); rintro e w2 ⟨rfl, hb⟩; have n_C2 := Aside0.mk (blk_below C2.out hb); have n_D0 := Aside0.mk (below_then D0.out D0.out.size hb); clear C2 D0 hb; have C2 := n_C2; have D0 := n_D0; clear n_C2 n_D0)
    | ((with_reducible refine gate_store rfl ?_); refine wpList_store_row rfl 23 (.tmp 2) (.tmp 5) rfl w.heap.size (brw 32 S) rfl rfl 23 (brw 32 []) C2.out (by rw [hz]; exact i23) (by rw [hz, hz0]) (brw_one _ _) ?_))
  refine bodyPost_ret (results_cell_row (fn := Try.f13) rfl _ _ w.heap.size 23 (brw 32 S) (0, 0) _ rfl (setRow_heap _ w.heap.size _ _ 23 _ C2.out) Try.underlying23 rfl (by rw [hz]; exact i23)) rfl ?_
  exact ⟨rfl, below_setRow D0.out (Nat.le_refl _) _⟩
def nod.T1 : Bool × List (List Nat × List Nat) := (true, [([], []), ([0], [0]), ([1], [1]), ([], []), ([3], [3]), ([2, 4], [2, 4]), ([5], [5]), ([6, 6, 0, 1, 2, 3, 4, 5, 6], [6])])
def nod.B1 : List Nat := [0, 1, 3, 0, 8, 31, 63, 127]
theorem nod.tab1 : rtab .any (opsOf Try.f14 1) = nod.T1 := by kernel_rfl
theorem nod.bits1 : waitsOk nod.T1.2 nod.B1 = true := by kernel_rfl
set_option maxHeartbeats 8000000 in
set_option maxRecDepth 100000 in
theorem node_calls (x y : List UInt8) (hx : x.length = 32) (hy : y.length = 32) (w : World) :
    Calls Try.prog 14 #[B32 x, B32 y] w fun e w' => e = .returned (B32 (nodeF x y)) ∧ Below w.heap.size w w' := by
  have i23 : (Try.prog.info? 23).map (·.size) = some 32 := by kernel_rfl
  obtain ⟨X, hX⟩ : ∃ X, X = tx x := ⟨_, rfl⟩
  obtain ⟨Y, hY⟩ : ∃ Y, Y = tx y := ⟨_, rfl⟩
  obtain ⟨X1, hX1⟩ : ∃ X1, X1 = tx (1 :: x) := ⟨_, rfl⟩
  obtain ⟨XY, hXY⟩ : ∃ XY, XY = tx (1 :: (x ++ y)) := ⟨_, rfl⟩
  have hXs : X.size = 32 := by rw [hX, tx_size, hx]
  have hYs : Y.size = 32 := by rw [hY, tx_size, hy]
  have hX1s : X1.size = 33 := by rw [hX1, tx_size, List.length_cons, hx]
  have e1 : (⟨#[1]⟩ : ByteArray) ++ X = X1 := by rw [hX1, hX]; exact tx_append [1] x
  have e2 : X1 ++ Y = XY := by rw [hX1, hY, hXY]; exact tx_append (1 :: x) y
  obtain ⟨S, hS⟩ : ∃ S, S = nodeF x y := ⟨_, rfl⟩
  have hS32 : S.length = 32 := by rw [hS]; exact nodeF_len x y
  have HC : ∀ W : World, Calls Try.prog 22 #[.string XY] W fun e w' => e = .returned (.agg (brw 32 S)) ∧ Below W.heap.size W w' := fun W => by rw [← B32_brw S hS32, hXY, hS]; exact sum_calls (1 :: (x ++ y)) W (by rw [List.length_cons, List.length_append, hx, hy]; decide)
  have hz : (brw 32 S).size = 32 := brw_size 32 S (by omega)
  have hz0 : (brw 32 []).size = 32 := rfl
  rw [← hS, B32_brw S hS32, B32_brw x hx, B32_brw y hy]
  have TXT : ∀ (W : World) (g : Nat), W.heap[g]? = some (.cells (brw 32 x) 23 (0, 0)) → (convert 44 9 (.slice (some ⟨g, 0, none⟩) 32 32)).run Try.prog W = .ok (.string X) W := fun W g h => by rw [hX]; exact text_hash hx h
  have TYT : ∀ (W : World) (g : Nat), W.heap[g]? = some (.cells (brw 32 y) 23 (0, 0)) → (convert 44 9 (.slice (some ⟨g, 0, none⟩) 32 32)).run Try.prog W = .ok (.string Y) W := fun W g h => by rw [hY]; exact text_hash hy h
  clear hX hY hX1 hXY hS
  go_enter Try.func14, Try.ntmps14
  go_upto_region 1 with (fail)
  change Code.wp _ _ _ _ (((w.alloc (.cells (brw 32 x) 23)).alloc (.cells (brw 32 y) 23)).alloc (.cells (brw 32 []) 23))
  have C2 : Aside0 ((((w.alloc (.cells (brw 32 x) 23)).alloc (.cells (brw 32 y) 23)).alloc (.cells (brw 32 []) 23)).heap[w.heap.size]? = some (.cells (brw 32 x) 23 (0, 0))) := ⟨blk_below (blk_new w (.cells (brw 32 x) 23)) (below_alloc (below_alloc (Below.refl _ _) _) _)⟩
  have C3 : Aside0 ((((w.alloc (.cells (brw 32 x) 23)).alloc (.cells (brw 32 y) 23)).alloc (.cells (brw 32 []) 23)).heap[w.heap.size + 1]? = some (.cells (brw 32 y) 23 (0, 0))) := ⟨blk_below (alloc_second w (.cells (brw 32 x) 23) (.cells (brw 32 y) 23)) (below_alloc (Below.refl _ _) _)⟩
  have C4 : Aside0 ((((w.alloc (.cells (brw 32 x) 23)).alloc (.cells (brw 32 y) 23)).alloc (.cells (brw 32 []) 23)).heap[w.heap.size + 2]? = some (.cells (brw 32 []) 23 (0, 0))) := ⟨alloc_third _ _ _ _⟩
  have D0 := Aside0.mk (below_alloc (below_alloc (below_alloc (Below.refl w.heap.size w) (.cells (brw 32 x) 23)) (.cells (brw 32 y) 23)) (.cells (brw 32 []) 23))
  generalize ((w.alloc (.cells (brw 32 x) 23)).alloc (.cells (brw 32 y) 23)).alloc (.cells (brw 32 []) 23) = w1 at C2 C3 C4 D0 ⊢
  obtain ⟨g2, hg2⟩ : ∃ g, g = w.heap.size := ⟨_, rfl⟩
  obtain ⟨g3, hg3⟩ : ∃ g, g = w.heap.size + 1 := ⟨_, rfl⟩
  obtain ⟨g4, hg4⟩ : ∃ g, g = w.heap.size + 2 := ⟨_, rfl⟩
  have P2 : (Value.pointer (some ⟨w.heap.size, 0, none⟩)) = .pointer (some ⟨g2, 0, none⟩) := by rw [hg2]
  have P3 : (Value.pointer (some ⟨w.heap.size + 1, 0, none⟩)) = .pointer (some ⟨g3, 0, none⟩) := by rw [hg3]
  have P4 : (Value.pointer (some ⟨w.heap.size + 2, 0, none⟩)) = .pointer (some ⟨g4, 0, none⟩) := by rw [hg4]
  rw [P2, P3, P4]
  rw [← hg2] at C2
  rw [← hg3] at C3
  rw [← hg4] at C4
  have G4 : Aside0 (w.heap.size ≤ g4) := ⟨by omega⟩
  clear P2 P3 P4 hg2 hg3 hg4
  refine start_ (n := 8) (S := fun W => W.heap[g2]? = some (.cells (brw 32 x) 23 (0, 0)) ∧ W.heap[g3]? = some (.cells (brw 32 y) 23 (0, 0))) (ds := [7]) #[false, false, false, false, false, false, false, false] (by kernel_rfl) rfl rfl ⟨blk_drew C2.out, blk_drew C3.out⟩ (fun hHeld => ?_); refine with_tabW nod.tab1 nod.bits1 (fun HT_ HW_ => ?_)
  have n_C2 := Aside0.mk (blk_drew C2.out)
  have n_C3 := Aside0.mk (blk_drew C3.out)
  have n_C4 := Aside0.mk (blk_drew C4.out)
  have n_D0 := Aside0.mk (below_drew1 D0.out)
  clear C2 C3 C4 D0
  have C2 := n_C2
  have C3 := n_C3
  have C4 := n_C4
  have D0 := n_D0
  clear n_C2 n_C3 n_C4 n_D0
  generalize World.drew _ = wR at C2 C3 C4 D0 hHeld ⊢
  refine pure_ (i := 0) (N := some 5) (v := ?_) (a' := ?_) #[true, false, false, false, false, false, false, false] rfl rfl (any_of HT_.out (by kernel_rfl)) (fun _ _ _ h => h) (Or.inl ⟨by rfl, ?_⟩) ?_ ?_
  rotate_left
  · intro w'
    go_simp
    with_reducible rfl
  rotate_left
  · simp only [Act.put, List.setIfInBounds_toArray, List.set_cons_zero, List.set_cons_succ, i64_w, i32_w]
    rfl
  refine pure_ (i := 3) (N := some 8) (v := ?_) (a' := ?_) #[true, false, false, true, false, false, false, false] rfl rfl (any_of HT_.out (by kernel_rfl)) (fun _ _ _ h => h) (Or.inl ⟨by rfl, ?_⟩) ?_ ?_
  rotate_left
  · intro w'
    go_simp
    with_reducible rfl
  rotate_left
  · simp only [Act.put, List.setIfInBounds_toArray, List.set_cons_zero, List.set_cons_succ, i64_w, i32_w]
    rfl
  refine take_ (i := 1) (N := some 6) (v := ?_) (a' := ?_) #[true, true, false, true, false, false, false, false] rfl rfl (take_ofW HT_.out HW_.out (by kernel_rfl)) (fun _ _ _ h => h) (Or.inl ⟨by rfl, ?_⟩) hHeld ?_ ?_
  rotate_left
  · rintro w' ⟨s0, s1⟩
    have yt := TXT _ _ s0
    go_simp
    with_reducible rfl
  rotate_left
  · simp only [Act.put, List.setIfInBounds_toArray, List.set_cons_zero, List.set_cons_succ, i64_w, i32_w]
    rfl
  refine take_ (i := 4) (N := some 9) (v := ?_) (a' := ?_) #[true, true, false, true, true, false, false, false] rfl rfl (take_ofW HT_.out HW_.out (by kernel_rfl)) (fun _ _ _ h => h) (Or.inl ⟨by rfl, ?_⟩) hHeld ?_ ?_
  rotate_left
  · rintro w' ⟨s0, s1⟩
    have yt := TYT _ _ s1
    go_simp
    with_reducible rfl
  rotate_left
  · simp only [Act.put, List.setIfInBounds_toArray, List.set_cons_zero, List.set_cons_succ, i64_w, i32_w]
    rfl
  refine pure_ (i := 2) (N := some 7) (v := ?_) (a' := ?_) #[true, true, true, true, true, false, false, false] rfl rfl (any_of HT_.out (by kernel_rfl)) (fun _ _ _ h => h) (Or.inl ⟨by rfl, ?_⟩) ?_ ?_
  rotate_left
  · intro w'
    go_simp
    with_reducible rfl
  rotate_left
  · simp only [Act.put, List.setIfInBounds_toArray, List.set_cons_zero, List.set_cons_succ, i64_w, i32_w]
    rfl
  refine pure_ (i := 5) (N := some 10) (v := ?_) (a' := ?_) #[true, true, true, true, true, true, false, false] rfl rfl (any_of HT_.out (by kernel_rfl)) (fun _ _ _ h => h) (Or.inl ⟨by rfl, ?_⟩) ?_ ?_
  rotate_left
  · intro w'
    go_simp
    with_reducible rfl
  rotate_left
  · simp only [Act.put, List.setIfInBounds_toArray, List.set_cons_zero, List.set_cons_succ, i64_w, i32_w]
    rfl
  refine one_ (i := 6) (N := some 11) #[true, true, true, true, true, true, true, false] rfl rfl (one_of HT_.out (by kernel_rfl)) (by decide) (fun K hK => ?_)
  refine goes_ Try.func22 (by kernel_rfl) rfl #[.string XY] (by rfl) rfl rfl (by (try simp only [List.map_toArray, List.map_cons, List.map_nil]); first | done | rfl) ?_
  with_reducible refine (HC _).mono ?_
  rintro e w2 ⟨rfl, hb⟩
  refine ⟨_, rfl, ?_⟩
  have n_C2 := Aside0.mk (blk_below C2.out hb)
  have n_C3 := Aside0.mk (blk_below C3.out hb)
  have n_C4 := Aside0.mk (blk_below C4.out hb)
  have n_D0 := Aside0.mk (below_then D0.out D0.out.size hb)
  clear C2 C3 C4 D0
  have C2 := n_C2
  have C3 := n_C3
  have C4 := n_C4
  have D0 := n_D0
  clear n_C2 n_C3 n_C4 n_D0
  clear hb
  refine hK.out _ _ ⟨C2.out, C3.out⟩ (fun hHeld => ?_)
  clear hK K
  refine norm_ (a' := ?_) ?_ ?_
  rotate_left
  · show Act.put _ (some 11) _ = _
    simp only [Act.put, List.setIfInBounds_toArray, List.set_cons_zero, List.set_cons_succ, i64_w, i32_w]
    rfl
  refine last_ (i := 7) (N := none) #[true, true, true, true, true, true, true, true] rfl rfl (one_of HT_.out (by kernel_rfl)) (by decide) (fun K hK => ?_)
  rw [if_pos (by rfl)]
  refine wp_store_row 23 (.tmp 4) (.tmp 11) rfl g4 (brw 32 S) rfl rfl 23 (brw 32 []) C4.out (by rw [hz]; exact i23) (by rw [hz, hz0]) (brw_one _ _) ?_
  refine hK.out _ _ ?_
  clear hK K
  refine norm_ (a' := ?_) ?_ ?_
  rotate_left
  · show Act.put _ (none) _ = _
    simp only [Act.put]
    rfl
  refine done_ (done_of HT_.out (by kernel_rfl)) ?_
  go_wp2
  refine bodyPost_ret (results_cell_row (fn := Try.f14) rfl _ _ g4 23 (brw 32 S) (0, 0) _ rfl (setRow_heap _ g4 _ _ 23 _ C4.out) Try.underlying23 rfl (by rw [hz]; exact i23)) rfl ?_
  exact ⟨rfl, below_setRow D0.out G4.out _⟩
def rno.T1 : Bool × List (List Nat × List Nat) := (true, [([], []), ([0], [0]), ([1], [1]), ([], []), ([3], [3]), ([2, 4], [2, 4]), ([5], [5]), ([6, 6, 0, 1, 2, 3, 4, 5, 6], [6])])
def rno.B1 : List Nat := [0, 1, 3, 0, 8, 31, 63, 127]
theorem rno.tab1 : rtab .any (opsOf Try.f15 1) = rno.T1 := by kernel_rfl
theorem rno.bits1 : waitsOk rno.T1.2 rno.B1 = true := by kernel_rfl
set_option maxHeartbeats 8000000 in
set_option maxRecDepth 100000 in
theorem rnode_calls (x y : List UInt8) (hx : x.length = 32) (hy : y.length = 32) (w : World) :
    Calls Try.prog 15 #[B32 x, B32 y] w fun e w' => e = .returned (B32 (nodeF x y)) ∧ Below w.heap.size w w' := by
  have i23 : (Try.prog.info? 23).map (·.size) = some 32 := by kernel_rfl
  obtain ⟨X, hX⟩ : ∃ X, X = tx x := ⟨_, rfl⟩
  obtain ⟨Y, hY⟩ : ∃ Y, Y = tx y := ⟨_, rfl⟩
  obtain ⟨X1, hX1⟩ : ∃ X1, X1 = tx (1 :: x) := ⟨_, rfl⟩
  obtain ⟨XY, hXY⟩ : ∃ XY, XY = tx (1 :: (x ++ y)) := ⟨_, rfl⟩
  have hXs : X.size = 32 := by rw [hX, tx_size, hx]
  have hYs : Y.size = 32 := by rw [hY, tx_size, hy]
  have hX1s : X1.size = 33 := by rw [hX1, tx_size, List.length_cons, hx]
  have e1 : (⟨#[1]⟩ : ByteArray) ++ X = X1 := by rw [hX1, hX]; exact tx_append [1] x
  have e2 : X1 ++ Y = XY := by rw [hX1, hY, hXY]; exact tx_append (1 :: x) y
  obtain ⟨S, hS⟩ : ∃ S, S = nodeF x y := ⟨_, rfl⟩
  have hS32 : S.length = 32 := by rw [hS]; exact nodeF_len x y
  have HC : ∀ W : World, Calls Try.prog 25 #[.string XY] W fun e w' => e = .returned (.agg (brw 32 S)) ∧ Below W.heap.size W w' := fun W => by rw [← B32_brw S hS32, hXY, hS]; exact rsum_calls (1 :: (x ++ y)) W (by rw [List.length_cons, List.length_append, hx, hy]; decide)
  have hz : (brw 32 S).size = 32 := brw_size 32 S (by omega)
  have hz0 : (brw 32 []).size = 32 := rfl
  rw [← hS, B32_brw S hS32, B32_brw x hx, B32_brw y hy]
  have TXT : ∀ (W : World) (g : Nat), W.heap[g]? = some (.cells (brw 32 x) 23 (0, 0)) → (convert 44 9 (.slice (some ⟨g, 0, none⟩) 32 32)).run Try.prog W = .ok (.string X) W := fun W g h => by rw [hX]; exact text_hash hx h
  have TYT : ∀ (W : World) (g : Nat), W.heap[g]? = some (.cells (brw 32 y) 23 (0, 0)) → (convert 44 9 (.slice (some ⟨g, 0, none⟩) 32 32)).run Try.prog W = .ok (.string Y) W := fun W g h => by rw [hY]; exact text_hash hy h
  clear hX hY hX1 hXY hS
  go_enter Try.func15, Try.ntmps15
  go_upto_region 1 with (fail)
  change Code.wp _ _ _ _ (((w.alloc (.cells (brw 32 x) 23)).alloc (.cells (brw 32 y) 23)).alloc (.cells (brw 32 []) 23))
  have C2 : Aside0 ((((w.alloc (.cells (brw 32 x) 23)).alloc (.cells (brw 32 y) 23)).alloc (.cells (brw 32 []) 23)).heap[w.heap.size]? = some (.cells (brw 32 x) 23 (0, 0))) := ⟨blk_below (blk_new w (.cells (brw 32 x) 23)) (below_alloc (below_alloc (Below.refl _ _) _) _)⟩
  have C3 : Aside0 ((((w.alloc (.cells (brw 32 x) 23)).alloc (.cells (brw 32 y) 23)).alloc (.cells (brw 32 []) 23)).heap[w.heap.size + 1]? = some (.cells (brw 32 y) 23 (0, 0))) := ⟨blk_below (alloc_second w (.cells (brw 32 x) 23) (.cells (brw 32 y) 23)) (below_alloc (Below.refl _ _) _)⟩
  have C4 : Aside0 ((((w.alloc (.cells (brw 32 x) 23)).alloc (.cells (brw 32 y) 23)).alloc (.cells (brw 32 []) 23)).heap[w.heap.size + 2]? = some (.cells (brw 32 []) 23 (0, 0))) := ⟨alloc_third _ _ _ _⟩
  have D0 := Aside0.mk (below_alloc (below_alloc (below_alloc (Below.refl w.heap.size w) (.cells (brw 32 x) 23)) (.cells (brw 32 y) 23)) (.cells (brw 32 []) 23))
  generalize ((w.alloc (.cells (brw 32 x) 23)).alloc (.cells (brw 32 y) 23)).alloc (.cells (brw 32 []) 23) = w1 at C2 C3 C4 D0 ⊢
  obtain ⟨g2, hg2⟩ : ∃ g, g = w.heap.size := ⟨_, rfl⟩
  obtain ⟨g3, hg3⟩ : ∃ g, g = w.heap.size + 1 := ⟨_, rfl⟩
  obtain ⟨g4, hg4⟩ : ∃ g, g = w.heap.size + 2 := ⟨_, rfl⟩
  have P2 : (Value.pointer (some ⟨w.heap.size, 0, none⟩)) = .pointer (some ⟨g2, 0, none⟩) := by rw [hg2]
  have P3 : (Value.pointer (some ⟨w.heap.size + 1, 0, none⟩)) = .pointer (some ⟨g3, 0, none⟩) := by rw [hg3]
  have P4 : (Value.pointer (some ⟨w.heap.size + 2, 0, none⟩)) = .pointer (some ⟨g4, 0, none⟩) := by rw [hg4]
  rw [P2, P3, P4]
  rw [← hg2] at C2
  rw [← hg3] at C3
  rw [← hg4] at C4
  have G4 : Aside0 (w.heap.size ≤ g4) := ⟨by omega⟩
  clear P2 P3 P4 hg2 hg3 hg4
  refine start_ (n := 8) (S := fun W => W.heap[g2]? = some (.cells (brw 32 x) 23 (0, 0)) ∧ W.heap[g3]? = some (.cells (brw 32 y) 23 (0, 0))) (ds := [7]) #[false, false, false, false, false, false, false, false] (by kernel_rfl) rfl rfl ⟨blk_drew C2.out, blk_drew C3.out⟩ (fun hHeld => ?_); refine with_tabW rno.tab1 rno.bits1 (fun HT_ HW_ => ?_)
  have n_C2 := Aside0.mk (blk_drew C2.out)
  have n_C3 := Aside0.mk (blk_drew C3.out)
  have n_C4 := Aside0.mk (blk_drew C4.out)
  have n_D0 := Aside0.mk (below_drew1 D0.out)
  clear C2 C3 C4 D0
  have C2 := n_C2
  have C3 := n_C3
  have C4 := n_C4
  have D0 := n_D0
  clear n_C2 n_C3 n_C4 n_D0
  generalize World.drew _ = wR at C2 C3 C4 D0 hHeld ⊢
  refine pure_ (i := 0) (N := some 5) (v := ?_) (a' := ?_) #[true, false, false, false, false, false, false, false] rfl rfl (any_of HT_.out (by kernel_rfl)) (fun _ _ _ h => h) (Or.inl ⟨by rfl, ?_⟩) ?_ ?_
  rotate_left
  · intro w'
    go_simp
    with_reducible rfl
  rotate_left
  · simp only [Act.put, List.setIfInBounds_toArray, List.set_cons_zero, List.set_cons_succ, i64_w, i32_w]
    rfl
  refine pure_ (i := 3) (N := some 8) (v := ?_) (a' := ?_) #[true, false, false, true, false, false, false, false] rfl rfl (any_of HT_.out (by kernel_rfl)) (fun _ _ _ h => h) (Or.inl ⟨by rfl, ?_⟩) ?_ ?_
  rotate_left
  · intro w'
    go_simp
    with_reducible rfl
  rotate_left
  · simp only [Act.put, List.setIfInBounds_toArray, List.set_cons_zero, List.set_cons_succ, i64_w, i32_w]
    rfl
  refine take_ (i := 1) (N := some 6) (v := ?_) (a' := ?_) #[true, true, false, true, false, false, false, false] rfl rfl (take_ofW HT_.out HW_.out (by kernel_rfl)) (fun _ _ _ h => h) (Or.inl ⟨by rfl, ?_⟩) hHeld ?_ ?_
  rotate_left
  · rintro w' ⟨s0, s1⟩
    have yt := TXT _ _ s0
    go_simp
    with_reducible rfl
  rotate_left
  · simp only [Act.put, List.setIfInBounds_toArray, List.set_cons_zero, List.set_cons_succ, i64_w, i32_w]
    rfl
  refine take_ (i := 4) (N := some 9) (v := ?_) (a' := ?_) #[true, true, false, true, true, false, false, false] rfl rfl (take_ofW HT_.out HW_.out (by kernel_rfl)) (fun _ _ _ h => h) (Or.inl ⟨by rfl, ?_⟩) hHeld ?_ ?_
  rotate_left
  · rintro w' ⟨s0, s1⟩
    have yt := TYT _ _ s1
    go_simp
    with_reducible rfl
  rotate_left
  · simp only [Act.put, List.setIfInBounds_toArray, List.set_cons_zero, List.set_cons_succ, i64_w, i32_w]
    rfl
  refine pure_ (i := 2) (N := some 7) (v := ?_) (a' := ?_) #[true, true, true, true, true, false, false, false] rfl rfl (any_of HT_.out (by kernel_rfl)) (fun _ _ _ h => h) (Or.inl ⟨by rfl, ?_⟩) ?_ ?_
  rotate_left
  · intro w'
    go_simp
    with_reducible rfl
  rotate_left
  · simp only [Act.put, List.setIfInBounds_toArray, List.set_cons_zero, List.set_cons_succ, i64_w, i32_w]
    rfl
  refine pure_ (i := 5) (N := some 10) (v := ?_) (a' := ?_) #[true, true, true, true, true, true, false, false] rfl rfl (any_of HT_.out (by kernel_rfl)) (fun _ _ _ h => h) (Or.inl ⟨by rfl, ?_⟩) ?_ ?_
  rotate_left
  · intro w'
    go_simp
    with_reducible rfl
  rotate_left
  · simp only [Act.put, List.setIfInBounds_toArray, List.set_cons_zero, List.set_cons_succ, i64_w, i32_w]
    rfl
  refine one_ (i := 6) (N := some 11) #[true, true, true, true, true, true, true, false] rfl rfl (one_of HT_.out (by kernel_rfl)) (by decide) (fun K hK => ?_)
  refine goes_ Try.func25 (by kernel_rfl) rfl #[.string XY] (by rfl) rfl rfl (by (try simp only [List.map_toArray, List.map_cons, List.map_nil]); first | done | rfl) ?_
  with_reducible refine (HC _).mono ?_
  rintro e w2 ⟨rfl, hb⟩
  refine ⟨_, rfl, ?_⟩
  have n_C2 := Aside0.mk (blk_below C2.out hb)
  have n_C3 := Aside0.mk (blk_below C3.out hb)
  have n_C4 := Aside0.mk (blk_below C4.out hb)
  have n_D0 := Aside0.mk (below_then D0.out D0.out.size hb)
  clear C2 C3 C4 D0
  have C2 := n_C2
  have C3 := n_C3
  have C4 := n_C4
  have D0 := n_D0
  clear n_C2 n_C3 n_C4 n_D0
  clear hb
  refine hK.out _ _ ⟨C2.out, C3.out⟩ (fun hHeld => ?_)
  clear hK K
  refine norm_ (a' := ?_) ?_ ?_
  rotate_left
  · show Act.put _ (some 11) _ = _
    simp only [Act.put, List.setIfInBounds_toArray, List.set_cons_zero, List.set_cons_succ, i64_w, i32_w]
    rfl
  refine last_ (i := 7) (N := none) #[true, true, true, true, true, true, true, true] rfl rfl (one_of HT_.out (by kernel_rfl)) (by decide) (fun K hK => ?_)
  rw [if_pos (by rfl)]
  refine wp_store_row 23 (.tmp 4) (.tmp 11) rfl g4 (brw 32 S) rfl rfl 23 (brw 32 []) C4.out (by rw [hz]; exact i23) (by rw [hz, hz0]) (brw_one _ _) ?_
  refine hK.out _ _ ?_
  clear hK K
  refine norm_ (a' := ?_) ?_ ?_
  rotate_left
  · show Act.put _ (none) _ = _
    simp only [Act.put]
    rfl
  refine done_ (done_of HT_.out (by kernel_rfl)) ?_
  go_wp2
  refine bodyPost_ret (results_cell_row (fn := Try.f15) rfl _ _ g4 23 (brw 32 S) (0, 0) _ rfl (setRow_heap _ g4 _ _ 23 _ C4.out) Try.underlying23 rfl (by rw [hz]; exact i23)) rfl ?_
  exact ⟨rfl, below_setRow D0.out G4.out _⟩
end Go.Proofs.Ythpnppfpmhlkaaa.Sha
