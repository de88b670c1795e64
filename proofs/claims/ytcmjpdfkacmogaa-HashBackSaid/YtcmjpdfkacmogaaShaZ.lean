/- Chapter 2: HashDigits, walked. -/
import Derived.Test.YtcmjpdfkacmogaaShaY
namespace Go.Proofs.Ytcmjpdfkacmogaa.Sha
open Go.RowKit Go.Proofs.Ytcmjpdfkacmogaa.X Go.Proofs.YtcmjpdfkacmogaaW.PrintWords Go.Proofs.YtcmjpdfkacmogaaW.PrintLast Go.Proofs.YtcmjpdfkacmogaaW.PrintMore
set_option linter.unusedVariables false
set_option linter.unusedSimpArgs false

def dig5.T5 : Bool × List (List Nat × List Nat) := (true, [([], []), ([0], [0]), ([], []), ([2, 1], [2]), ([1, 3], [1, 3]), ([4, 3], [4]), ([5], [5]), ([5], [5]), ([6, 7, 5], [5, 6, 7]), ([5, 8], [5, 8]), ([9, 5], [9]), ([10], [10]), ([10], [10]), ([11, 12, 10], [10, 11, 12]), ([10, 13], [10, 13]), ([14, 10, 0, 1, 2, 3, 4, 5, 6, 7, 8, 9, 10, 11, 12, 13, 14], [14])])
def dig5.B5 : List Nat := [0, 1, 0, 7, 15, 31, 63, 63, 255, 511, 1023, 2047, 2047, 8191, 16383, 32767]
theorem dig5.tab5 : rtab .any (opsOf Try.f5 5) = dig5.T5 := by kernel_rfl
theorem dig5.bits5 : waitsOk dig5.T5.2 dig5.B5 = true := by kernel_rfl
theorem B32_brw (x : List UInt8) (hx : x.length = 32) : B32 x = .agg (brw 32 x) := by unfold B32; rw [row_of_bytes x hx]
theorem parF_len (l : List UInt8) : (parF l).1.length = 32 := by
  unfold parF; split
  · simp only [acc_len]
  · simp only [List.length_replicate]
set_option maxHeartbeats 8000000 in
set_option maxRecDepth 100000 in
theorem digits_walk (h : List UInt8) (hh : h.length = 32) (s : ByteArray) (w : World) :
    Calls Try.prog 5 #[B32 h, .string s] w fun e w' => e = .returned (.bool true) ∧ Below w.heap.size w w' := by
  obtain ⟨l, rfl, hl⟩ := tx_of s
  obtain ⟨x, hx⟩ : ∃ x, x = (parF l).1 := ⟨_, rfl⟩
  obtain ⟨ok, hok⟩ : ∃ b, b = (parF l).2 := ⟨_, rfl⟩
  have hxl : x.length = 32 := by rw [hx]; exact parF_len l
  have HP : ∀ W : World, Calls Try.prog 16 #[.string (tx l)] W fun e w' => e = .returned (.tuple #[.agg (brw 32 x), .bool ok]) ∧ Below W.heap.size W w' := fun W => by rw [← B32_brw x hxl, hx, hok]; exact parse_calls l W
  have HR : ∀ W : World, Calls Try.prog 17 #[.string (tx l)] W fun e w' => e = .returned (.tuple #[.agg (brw 32 x), .bool ok]) ∧ Below W.heap.size W w' := fun W => by rw [← B32_brw x hxl, hx, hok]; exact rparse_calls l W
  obtain ⟨T, hT⟩ : ∃ T, T = tx (hexF h) := ⟨_, rfl⟩
  have HX : ∀ W : World, Calls Try.prog 18 #[.agg (brw 32 h)] W fun e w' => e = .returned (.string T) ∧ Below W.heap.size W w' := fun W => by rw [← B32_brw h hh, hT]; exact hex_calls h hh W
  have HRX : ∀ W : World, Calls Try.prog 19 #[.agg (brw 32 h)] W fun e w' => e = .returned (.string T) ∧ Below W.heap.size W w' := fun W => by rw [← B32_brw h hh, hT]; exact rhex_calls h hh W
  have heq := eq32 x x hxl hxl
  rw [decide_eq_true rfl, B32_brw x hxl] at heq
  have i24 : (Try.prog.info? 24).map (·.size) = some 32 := by kernel_rfl
  have hzh : (brw 32 h).size = 32 := brw_size 32 h (by omega)
  have hzx : (brw 32 x).size = 32 := brw_size 32 x (by omega)
  have hz0 : (brw 32 []).size = 32 := rfl
  rw [B32_brw h hh]
  clear hx hok hT hl
  go_enter Try.func5, Try.ntmps5
  go_upto_region 1 with (fail)
  change Code.wp _ _ _ _ (w.alloc (.cells (brw 32 h) 24))
  have C2 : Aside0 ((w.alloc (.cells (brw 32 h) 24)).heap[w.heap.size]? = some (.cells (brw 32 h) 24 (0, 0))) := ⟨blk_new _ _⟩
  have D0 := Aside0.mk (below_alloc (Below.refl w.heap.size w) (.cells (brw 32 h) 24))
  generalize w.alloc (.cells (brw 32 h) 24) = w1 at C2 D0 ⊢
  obtain ⟨g2, hg2⟩ : ∃ g, g = w.heap.size := ⟨_, rfl⟩
  have P2 : (Value.pointer (some ⟨w.heap.size, 0, none⟩)) = .pointer (some ⟨g2, 0, none⟩) := by rw [hg2]
  rw [P2]
  rw [← hg2] at C2
  clear P2 hg2
  go_upto_region 5 with (first
    | (go_at_call 9; (with_reducible refine (head_calls _).mono ?_); rintro e w2 ⟨rfl, hb⟩; have n_C2 := Aside0.mk (blk_below C2.out hb); have n_D0 := Aside0.mk (below_then D0.out D0.out.size hb); clear C2 D0 hb; have C2 := n_C2; have D0 := n_D0; clear n_C2 n_D0)
    | (go_at_call 16; (with_reducible refine (HP _).mono ?_); rintro e w3 ⟨rfl, hb⟩; have n_C2 := Aside0.mk (blk_below C2.out hb); have n_D0 := Aside0.mk (below_then D0.out D0.out.size hb); clear C2 D0 hb; have C2 := n_C2; have D0 := n_D0; clear n_C2 n_D0)
    | ((with_reducible refine gate_store rfl ?_); refine wpList_store_row rfl 24 (.tmp 5) (.tmp 14) rfl w3.heap.size (brw 32 x) rfl rfl 24 (brw 32 []) (blk_new _ _) (by rw [hzx]; exact i24) (by rw [hzx, hz0]) (brw_one _ _) ?_)
    | (go_at_call 17; change Calls Try.prog 17 _ ((w3.alloc (.cells (brw 32 []) 24)).setRow w3.heap.size (brw 32 x)) _; (with_reducible refine (HR _).mono ?_); rintro e w4 ⟨rfl, hb⟩; have hq := below_setRow (below_alloc (Below.refl w3.heap.size w3) (.cells (brw 32 []) 24)) (Nat.le_refl _) (brw 32 x); have C5 := Aside0.mk (blk_below (setRow_heap _ w3.heap.size _ (brw 32 x) _ _ (blk_new w3 (.cells (brw 32 []) 24))) hb); have n_C2 := Aside0.mk (blk_below (blk_below C2.out hq) hb); have n_D0 := Aside0.mk (below_then (below_setRow (below_alloc D0.out (.cells (brw 32 []) 24)) D0.out.size (brw 32 x)) (below_setRow (below_alloc D0.out (.cells (brw 32 []) 24)) D0.out.size (brw 32 x)).size hb); clear C2 D0 hb hq; have C2 := n_C2; have D0 := n_D0; clear n_C2 n_D0)
    | ((with_reducible refine gate_store rfl ?_); refine wpList_store_row rfl 24 (.tmp 7) (.tmp 19) rfl w4.heap.size (brw 32 x) rfl rfl 24 (brw 32 []) (blk_new _ _) (by rw [hzx]; exact i24) (by rw [hzx, hz0]) (brw_one _ _) ?_))
  change Code.wp _ _ _ _ ((w4.alloc (.cells (brw 32 []) 24)).setRow w4.heap.size (brw 32 x))
  have hq := below_setRow (below_alloc (Below.refl w4.heap.size w4) (.cells (brw 32 []) 24)) (Nat.le_refl _) (brw 32 x)
  have C7 := Aside0.mk (setRow_heap _ w4.heap.size _ (brw 32 x) _ _ (blk_new w4 (.cells (brw 32 []) 24)))
  have n_C2 := Aside0.mk (blk_below C2.out hq)
  have n_C5 := Aside0.mk (blk_below C5.out hq)
  have n_D0 := Aside0.mk (below_setRow (below_alloc D0.out (.cells (brw 32 []) 24)) D0.out.size (brw 32 x))
  clear C2 C5 D0 hq
  have C2 := n_C2
  have C5 := n_C5
  have D0 := n_D0
  clear n_C2 n_C5 n_D0
  obtain ⟨g5, hg5⟩ : ∃ g, g = w3.heap.size := ⟨_, rfl⟩
  obtain ⟨g7, hg7⟩ : ∃ g, g = w4.heap.size := ⟨_, rfl⟩
  have P5 : (Value.pointer (some ⟨w3.heap.size, 0, none⟩)) = .pointer (some ⟨g5, 0, none⟩) := by rw [hg5]
  have P7 : (Value.pointer (some ⟨w4.heap.size, 0, none⟩)) = .pointer (some ⟨g7, 0, none⟩) := by rw [hg7]
  rw [P5, P7]
  generalize (w4.alloc (.cells (brw 32 []) 24)).setRow w4.heap.size (brw 32 x) = w5 at C2 C5 C7 D0 ⊢
  rw [← hg5] at C5
  rw [← hg7] at C7
  clear P5 P7 hg5 hg7
  refine start_ (n := 16) (S := fun W => W.heap[g2]? = some (.cells (brw 32 h) 24 (0, 0)) ∧ W.heap[g5]? = some (.cells (brw 32 x) 24 (0, 0)) ∧ W.heap[g7]? = some (.cells (brw 32 x) 24 (0, 0))) (ds := []) #[false, false, false, false, false, false, false, false, false, false, false, false, false, false, false, false] (by kernel_rfl) rfl rfl ⟨blk_drew C2.out, blk_drew C5.out, blk_drew C7.out⟩ (fun hHeld => ?_); refine with_tabW dig5.tab5 dig5.bits5 (fun HT_ HW_ => ?_)
  have n_C2 := Aside0.mk (blk_drew C2.out)
  have n_C5 := Aside0.mk (blk_drew C5.out)
  have n_C7 := Aside0.mk (blk_drew C7.out)
  have n_D0 := Aside0.mk (below_drew1 D0.out)
  clear C2 C5 C7 D0
  have C2 := n_C2
  have C5 := n_C5
  have C7 := n_C7
  have D0 := n_D0
  clear n_C2 n_C5 n_C7 n_D0
  generalize World.drew _ = wR at C2 C5 C7 D0 hHeld ⊢
  refine take_ (i := 0) (N := some 21) (v := ?_) (a' := ?_) #[true, false, false, false, false, false, false, false, false, false, false, false, false, false, false, false] rfl rfl (take_ofW HT_.out HW_.out (by kernel_rfl)) (fun _ _ _ h => h) (Or.inl ⟨by rfl, ?_⟩) hHeld ?_ ?_
  rotate_left
  · rintro w' ⟨s0, s1, s2⟩
    refine exec_load_row 24 (.tmp 2) ?_ g2 ?_ 24 (brw 32 h) (0, 0) _ s0 Try.underlying24 ?_ (by rw [hzh]; exact i24) <;> rfl
  rotate_left
  · simp only [Act.put, List.setIfInBounds_toArray, List.set_cons_zero, List.set_cons_succ, i64_w, i32_w]
    rfl
  refine take_ (i := 2) (N := some 23) (v := ?_) (a' := ?_) #[true, false, true, false, false, false, false, false, false, false, false, false, false, false, false, false] rfl rfl (take_ofW HT_.out HW_.out (by kernel_rfl)) (fun _ _ _ h => h) (Or.inl ⟨by rfl, ?_⟩) hHeld ?_ ?_
  rotate_left
  · rintro w' ⟨s0, s1, s2⟩
    refine exec_load_row 24 (.tmp 2) ?_ g2 ?_ 24 (brw 32 h) (0, 0) _ s0 Try.underlying24 ?_ (by rw [hzh]; exact i24) <;> rfl
  rotate_left
  · simp only [Act.put, List.setIfInBounds_toArray, List.set_cons_zero, List.set_cons_succ, i64_w, i32_w]
    rfl
  refine one_ (i := 1) (N := some 22) #[true, true, true, false, false, false, false, false, false, false, false, false, false, false, false, false] rfl rfl (one_of HT_.out (by kernel_rfl)) (by decide) (fun K hK => ?_)
  refine goes_ Try.func18 (by kernel_rfl) rfl #[.agg (brw 32 h)] (by rfl) rfl rfl (by (try simp only [List.map_toArray, List.map_cons, List.map_nil]); first | done | rfl) ?_
  with_reducible refine (HX _).mono ?_
  rintro e w18 ⟨rfl, hd⟩
  refine ⟨_, rfl, ?_⟩
  have n_C2 := Aside0.mk (blk_below C2.out hd)
  have n_C5 := Aside0.mk (blk_below C5.out hd)
  have n_C7 := Aside0.mk (blk_below C7.out hd)
  have n_D0 := Aside0.mk (below_then D0.out D0.out.size hd)
  clear C2 C5 C7 D0
  have C2 := n_C2
  have C5 := n_C5
  have C7 := n_C7
  have D0 := n_D0
  clear n_C2 n_C5 n_C7 n_D0
  clear hd
  refine hK.out _ _ ⟨C2.out, C5.out, C7.out⟩ (fun hHeld => ?_)
  clear hK K
  refine norm_ (a' := ?_) ?_ ?_
  rotate_left
  · show Act.put _ (some 22) _ = _
    simp only [Act.put, List.setIfInBounds_toArray, List.set_cons_zero, List.set_cons_succ, i64_w, i32_w]
    rfl
  refine one_ (i := 3) (N := some 24) #[true, true, true, true, false, false, false, false, false, false, false, false, false, false, false, false] rfl rfl (one_of HT_.out (by kernel_rfl)) (by decide) (fun K hK => ?_)
  refine goes_ Try.func19 (by kernel_rfl) rfl #[.agg (brw 32 h)] (by rfl) rfl rfl (by (try simp only [List.map_toArray, List.map_cons, List.map_nil]); first | done | rfl) ?_
  with_reducible refine (HRX _).mono ?_
  rintro e w19 ⟨rfl, hd⟩
  refine ⟨_, rfl, ?_⟩
  have n_C2 := Aside0.mk (blk_below C2.out hd)
  have n_C5 := Aside0.mk (blk_below C5.out hd)
  have n_C7 := Aside0.mk (blk_below C7.out hd)
  have n_D0 := Aside0.mk (below_then D0.out D0.out.size hd)
  clear C2 C5 C7 D0
  have C2 := n_C2
  have C5 := n_C5
  have C7 := n_C7
  have D0 := n_D0
  clear n_C2 n_C5 n_C7 n_D0
  clear hd
  refine hK.out _ _ ⟨C2.out, C5.out, C7.out⟩ (fun hHeld => ?_)
  clear hK K
  refine norm_ (a' := ?_) ?_ ?_
  rotate_left
  · show Act.put _ (some 24) _ = _
    simp only [Act.put, List.setIfInBounds_toArray, List.set_cons_zero, List.set_cons_succ, i64_w, i32_w]
    rfl
  refine pure_ (i := 4) (N := some 25) (v := ?_) (a' := ?_) #[true, true, true, true, true, false, false, false, false, false, false, false, false, false, false, false] rfl rfl (any_of HT_.out (by kernel_rfl)) (fun _ _ _ h => h) (Or.inl ⟨by rfl, ?_⟩) ?_ ?_
  rotate_left
  · intro w'
    go_simp
    with_reducible rfl
  rotate_left
  · simp only [Act.put, List.setIfInBounds_toArray, List.set_cons_zero, List.set_cons_succ, i64_w, i32_w]
    rfl
  refine pure_ (i := 5) (N := some 26) (v := ?_) (a' := ?_) #[true, true, true, true, true, true, false, false, false, false, false, false, false, false, false, false] rfl rfl (any_of HT_.out (by kernel_rfl)) (fun _ _ _ h => h) (Or.inl ⟨by rfl, ?_⟩) ?_ ?_
  rotate_left
  · intro w'
    go_simp
    with_reducible rfl
  rotate_left
  · simp only [Act.put, List.setIfInBounds_toArray, List.set_cons_zero, List.set_cons_succ, i64_w, i32_w]
    rfl
  refine take_ (i := 6) (N := some 27) (v := ?_) (a' := ?_) #[true, true, true, true, true, true, true, false, false, false, false, false, false, false, false, false] rfl rfl (take_ofW HT_.out HW_.out (by kernel_rfl)) (fun _ _ _ h => h) (Or.inl ⟨by rfl, ?_⟩) hHeld ?_ ?_
  rotate_left
  · rintro w' ⟨s0, s1, s2⟩
    refine exec_load_row 24 (.tmp 5) ?_ g5 ?_ 24 (brw 32 x) (0, 0) _ s1 Try.underlying24 ?_ (by rw [hzx]; exact i24) <;> rfl
  rotate_left
  · simp only [Act.put, List.setIfInBounds_toArray, List.set_cons_zero, List.set_cons_succ, i64_w, i32_w]
    rfl
  refine take_ (i := 7) (N := some 28) (v := ?_) (a' := ?_) #[true, true, true, true, true, true, true, true, false, false, false, false, false, false, false, false] rfl rfl (take_ofW HT_.out HW_.out (by kernel_rfl)) (fun _ _ _ h => h) (Or.inl ⟨by rfl, ?_⟩) hHeld ?_ ?_
  rotate_left
  · rintro w' ⟨s0, s1, s2⟩
    refine exec_load_row 24 (.tmp 7) ?_ g7 ?_ 24 (brw 32 x) (0, 0) _ s2 Try.underlying24 ?_ (by rw [hzx]; exact i24) <;> rfl
  rotate_left
  · simp only [Act.put, List.setIfInBounds_toArray, List.set_cons_zero, List.set_cons_succ, i64_w, i32_w]
    rfl
  refine pure_ (i := 8) (N := some 29) (v := ?_) (a' := ?_) #[true, true, true, true, true, true, true, true, true, false, false, false, false, false, false, false] rfl rfl (any_of HT_.out (by kernel_rfl)) (fun _ _ _ h => h) (Or.inl ⟨by rfl, ?_⟩) ?_ ?_
  rotate_left
  · intro w'
    go_simp
    with_reducible rfl
  rotate_left
  · simp only [Act.put, List.setIfInBounds_toArray, List.set_cons_zero, List.set_cons_succ, i64_w, i32_w]
    rfl
  refine pure_ (i := 9) (N := some 30) (v := ?_) (a' := ?_) #[true, true, true, true, true, true, true, true, true, true, false, false, false, false, false, false] rfl rfl (any_of HT_.out (by kernel_rfl)) (fun _ _ _ h => h) (Or.inl ⟨by rfl, ?_⟩) ?_ ?_
  rotate_left
  · intro w'
    go_simp
    with_reducible rfl
  rotate_left
  · simp only [Act.put, List.setIfInBounds_toArray, List.set_cons_zero, List.set_cons_succ, i64_w, i32_w]
    rfl
  refine pure_ (i := 10) (N := some 31) (v := ?_) (a' := ?_) #[true, true, true, true, true, true, true, true, true, true, true, false, false, false, false, false] rfl rfl (any_of HT_.out (by kernel_rfl)) (fun _ _ _ h => h) (Or.inl ⟨by rfl, ?_⟩) ?_ ?_
  rotate_left
  · intro w'
    go_simp
    with_reducible rfl
  rotate_left
  · simp only [Act.put, List.setIfInBounds_toArray, List.set_cons_zero, List.set_cons_succ, i64_w, i32_w]
    rfl
  refine pure_ (i := 11) (N := some 32) (v := ?_) (a' := ?_) #[true, true, true, true, true, true, true, true, true, true, true, true, false, false, false, false] rfl rfl (any_of HT_.out (by kernel_rfl)) (fun _ _ _ h => h) (Or.inl ⟨by rfl, ?_⟩) ?_ ?_
  rotate_left
  · intro w'
    go_simp
    with_reducible rfl
  rotate_left
  · simp only [Act.put, List.setIfInBounds_toArray, List.set_cons_zero, List.set_cons_succ, i64_w, i32_w]
    rfl
  refine pure_ (i := 12) (N := some 33) (v := ?_) (a' := ?_) #[true, true, true, true, true, true, true, true, true, true, true, true, true, false, false, false] rfl rfl (any_of HT_.out (by kernel_rfl)) (fun _ _ _ h => h) (Or.inl ⟨by rfl, ?_⟩) ?_ ?_
  rotate_left
  · intro w'
    go_simp
    with_reducible rfl
  rotate_left
  · simp only [Act.put, List.setIfInBounds_toArray, List.set_cons_zero, List.set_cons_succ, i64_w, i32_w]
    rfl
  refine pure_ (i := 13) (N := some 34) (v := ?_) (a' := ?_) #[true, true, true, true, true, true, true, true, true, true, true, true, true, true, false, false] rfl rfl (any_of HT_.out (by kernel_rfl)) (fun _ _ _ h => h) (Or.inl ⟨by rfl, ?_⟩) ?_ ?_
  rotate_left
  · intro w'
    go_simp
    with_reducible rfl
  rotate_left
  · simp only [Act.put, List.setIfInBounds_toArray, List.set_cons_zero, List.set_cons_succ, i64_w, i32_w]
    rfl
  refine pure_ (i := 14) (N := some 35) (v := ?_) (a' := ?_) #[true, true, true, true, true, true, true, true, true, true, true, true, true, true, true, false] rfl rfl (any_of HT_.out (by kernel_rfl)) (fun _ _ _ h => h) (Or.inl ⟨by rfl, ?_⟩) ?_ ?_
  rotate_left
  · intro w'
    go_simp
    with_reducible rfl
  rotate_left
  · simp only [Act.put, List.setIfInBounds_toArray, List.set_cons_zero, List.set_cons_succ, i64_w, i32_w]
    rfl
  refine pure_ (i := 15) (N := some 4) (v := ?_) (a' := ?_) #[true, true, true, true, true, true, true, true, true, true, true, true, true, true, true, true] rfl rfl (any_of HT_.out (by kernel_rfl)) (fun _ _ _ h => h) (Or.inl ⟨by rfl, ?_⟩) ?_ ?_
  rotate_left
  · intro w'
    go_simp
    with_reducible rfl
  rotate_left
  · simp only [Act.put, List.setIfInBounds_toArray, List.set_cons_zero, List.set_cons_succ, i64_w, i32_w]
    rfl
  refine done_ (done_of HT_.out (by kernel_rfl)) ?_
  go_wp2
  go_ret
  exact ⟨rfl, D0.out⟩
end Go.Proofs.Ytcmjpdfkacmogaa.Sha
