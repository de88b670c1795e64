/- Chapter 2: (*hash.Writer).Write, walked by hand. -/
import Derived.Test.YthpnppfpmhlkaaaShaW
import Derived.Deep.MidRow
namespace Go.Proofs.Ythpnppfpmhlkaaa.Sha
open Go.RowKit Go.Proofs.Ythpnppfpmhlkaaa.X Go.Proofs.YthpnppfpmhlkaaaW.PrintWords Go.Proofs.YthpnppfpmhlkaaaW.PrintLast Go.Proofs.YthpnppfpmhlkaaaW.PrintMore
set_option linter.unusedVariables false
set_option linter.unusedSimpArgs false

theorem tx_append (a b : List UInt8) : tx a ++ tx b = tx (a ++ b) := by
  have h : (tx a ++ tx b).data.toList = a ++ b := by
    rw [ByteArray.data_append, Array.toList_append]; rfl
  rw [← h, tx_toList]
theorem blk8_len (s : S8) (l : List UInt8) : (blk8 s l).2.length ≤ l.length := by
  induction hn : l.length using Nat.strongRecOn generalizing l s with
  | _ n ih =>
    by_cases h : 64 ≤ l.length
    · rw [blk8_long s l h]
      have := ih (l.drop 64).length (by rw [List.length_drop]; omega) (turn K0 s (l.take 64)) (l.drop 64) rfl
      rw [List.length_drop] at this; omega
    · rw [blk8_short s l h]; exact Nat.le_of_eq hn
theorem blk8_mod (s : S8) (l : List UInt8) : (blk8 s l).2.length = l.length % 64 := by
  induction hn : l.length using Nat.strongRecOn generalizing l s with
  | _ n ih =>
    by_cases h : 64 ≤ l.length
    · rw [blk8_long s l h, ih (l.drop 64).length (by rw [List.length_drop]; omega) _ _ rfl, List.length_drop]; omega
    · rw [blk8_short s l h]
      show l.length = _
      omega
/-- What a writer does: its own block alone, and what is new. -/
structure Own (g : Nat) (w w' : World) : Prop where
  below : ∀ B, B ≤ g → B ≤ w.heap.size → Below B w w'
  other : ∀ (i : Nat) (o : Obj), i ≠ g → w.heap[i]? = some o → w'.heap[i]? = some o
def wadd (n : Int) (t : List UInt8) : Int := IntKind.u64.wrap (n + (t.length : Int))
def wri.T1 : Bool × List (List Nat × List Nat) := (true, [([], []), ([], []), ([], []), ([2], [2]), ([3], [3]), ([4], [4]), ([], []), ([6], [6]), ([7], [7]), ([8], [8]), ([], []), ([9, 10], [9, 10]), ([5, 11], [5, 11]), ([12], [12]), ([13], [13]), ([13], [13]), ([0, 0, 2, 3, 4, 5, 6, 7, 8, 9, 10, 11, 12, 13, 14], [0]), ([16, 0, 2, 3, 4, 5, 6, 7, 8, 9, 10, 11, 12, 13, 14], [16]), ([17, 14, 12, 0, 2, 3, 4, 5, 6, 7, 8, 9, 10, 11, 12, 13, 14], [14, 17]), ([1, 0, 1, 2, 3, 4, 5, 6, 7, 8, 9, 10, 11, 12, 13, 14, 15, 16, 17, 18], [1]), ([19, 0, 1, 2, 3, 4, 5, 6, 7, 8, 9, 10, 11, 12, 13, 14, 15, 16, 17, 18], [19]), ([20, 15, 18, 0, 1, 2, 3, 4, 5, 6, 7, 8, 9, 10, 11, 12, 13, 14, 15, 16, 17, 18], [15, 20])])
def wri.B1 : List Nat := [0, 0, 0, 4, 12, 28, 0, 64, 192, 448, 0, 1984, 4092, 8188, 16380, 16380, 32765, 98301, 229373, 524287, 1048575, 2097151]
theorem wri.tab1 : rtab .any (opsOf Try.f29 1) = wri.T1 := by kernel_rfl
theorem wri.bits1 : waitsOk wri.T1.2 wri.B1 = true := by kernel_rfl
set_option maxHeartbeats 8000000 in
set_option maxRecDepth 100000 in
theorem write_calls (g : Nat) (s : S8) (rest : List UInt8) (n : Int) (t : List UInt8) (w : World) (hg : w.heap[g]? = some (.cells (wc s rest n) 59 (0, 0))) (hl : rest.length < 64 ∧ t.length ≤ 4611686018427387904) :
    Calls Try.prog 29 #[.pointer (some ⟨g, 0, none⟩), .string (tx t)] w fun e w' => e = .returned (.tuple #[]) ∧ w'.heap[g]? = some (.cells (wc (blk8 s (rest ++ t)).1 (blk8 s (rest ++ t)).2 (wadd n t)) 59 (0, 0)) ∧ Own g w w' := by
  have hc9 : w.cell? ⟨g, 9, none⟩ = some (.int .u64 n) := (blk_cell hg 9).trans rfl
  have hf9 := blk_frozen hg 9
  have hts := tx_size t
  have i46 : (Try.prog.info? 50).map (·.size) = some 8 := by kernel_rfl
  go_enter Try.func29, Try.ntmps29
  go_upto_region 1 with (fail)
  have C0 : Aside0 ((w.setCell ⟨g, 9, none⟩ (.int .u64 (wadd n t))).heap[g]? = some (.cells (wc s rest (wadd n t)) 59 (0, 0))) := ⟨blk_put hg 9 _ rfl⟩
  have D0 : Aside0 (∀ B, B ≤ g → B ≤ w.heap.size → Below B w (w.setCell ⟨g, 9, none⟩ (.int .u64 (wadd n t)))) := ⟨fun B hB hW => below_set' (Below.refl _ _) hB⟩
  have E0 : Aside0 (∀ (i : Nat) (o : Obj), i ≠ g → w.heap[i]? = some o → (w.setCell ⟨g, 9, none⟩ (.int .u64 (wadd n t))).heap[i]? = some o) := ⟨fun i o hi hw => (Below.heap_setCell w ⟨g, 9, none⟩ _ i hi).trans hw⟩
  change Code.wp _ _ _ _ (w.setCell ⟨g, 9, none⟩ (.int .u64 (wadd n t)))
  obtain ⟨n1, hn1⟩ : ∃ n1, n1 = wadd n t := ⟨_, rfl⟩
  have G0 := Aside0.mk hg
  generalize w.setCell ⟨g, 9, none⟩ (.int .u64 (wadd n t)) = w1 at C0 D0 E0 ⊢
  rw [← hn1] at C0
  have htr : tx rest ++ tx t = tx (rest ++ t) := tx_append rest t
  have hrs := tx_size rest
  have hl2 : (rest.length + t.length ≤ 9223372036854775807) = True := eq_true (by omega)
  have hl3 : ((rest.length : Int) + (t.length : Int) ≤ 9223372036854775807) = True := eq_true (by omega)
  have hl4 : ((9223372036854775807 : Int) < (rest.length : Int) + (t.length : Int)) = False := eq_false (by omega)
  have hl5 : (9223372036854775807 < rest.length + t.length) = False := eq_false (by omega)
  have HN := Aside0.mk hn1
  obtain ⟨s2, r2, hb2⟩ : ∃ s2 r2, blk8 s (rest ++ t) = (s2, r2) := ⟨_, _, rfl⟩
  have HB2 := Aside0.mk hb2
  have HCALL : ∀ W : World, Calls Try.prog 36 #[.agg (vals (lst s)), .string (tx (rest ++ t))] W fun e w' => e = .returned (.tuple #[.agg #[.int .u32 (enc s2.a), .int .u32 (enc s2.b), .int .u32 (enc s2.c), .int .u32 (enc s2.d), .int .u32 (enc s2.e), .int .u32 (enc s2.f), .int .u32 (enc s2.g), .int .u32 (enc s2.h)], .string (tx r2)]) ∧ Below W.heap.size W w' := fun W => by have h := blocks_calls s (rest ++ t) W; rw [hb2] at h; exact h
  clear hc9 hf9 hg hl hn1 hb2
  refine start_ (n := 22) (S := fun W => W.heap[g]? = some (.cells (wc s rest n1) 59 (0, 0))) (ds := [18, 21]) #[false, false, false, false, false, false, false, false, false, false, false, false, false, false, false, false, false, false, false, false, false, false] (by kernel_rfl) rfl rfl (blk_drew C0.out) (fun hHeld => ?_); refine with_tabW wri.tab1 wri.bits1 (fun HT_ HW_ => ?_)
  have n_C0 := Aside0.mk (blk_drew C0.out)
  have n_D0 := Aside0.mk (fun B hB hW => below_drew1 (D0.out B hB hW))
  have n_E0 := Aside0.mk (fun i o hi hw => blk_drew (E0.out i o hi hw))
  clear C0 D0 E0
  have C0 := n_C0
  have D0 := n_D0
  have E0 := n_E0
  clear n_C0 n_D0 n_E0
  generalize World.drew _ = wR at C0 D0 E0 hHeld ⊢
  refine pure_ (i := 0) (N := some 15) (v := ?_) (a' := ?_) #[true, false, false, false, false, false, false, false, false, false, false, false, false, false, false, false, false, false, false, false, false, false] rfl rfl (any_of HT_.out (by kernel_rfl)) (fun _ _ _ h => h) (Or.inl ⟨by rfl, ?_⟩) ?_ ?_
  rotate_left
  · intro w'
    go_simp
    with_reducible rfl
  rotate_left
  · simp only [Act.put, List.setIfInBounds_toArray, List.set_cons_zero, List.set_cons_succ, i64_w, i32_w]
    rfl
  refine pure_ (i := 1) (N := some 16) (v := ?_) (a' := ?_) #[true, true, false, false, false, false, false, false, false, false, false, false, false, false, false, false, false, false, false, false, false, false] rfl rfl (any_of HT_.out (by kernel_rfl)) (fun _ _ _ h => h) (Or.inl ⟨by rfl, ?_⟩) ?_ ?_
  rotate_left
  · intro w'
    go_simp
    with_reducible rfl
  rotate_left
  · simp only [Act.put, List.setIfInBounds_toArray, List.set_cons_zero, List.set_cons_succ, i64_w, i32_w]
    rfl
  refine pure_ (i := 2) (N := some 17) (v := ?_) (a' := ?_) #[true, true, true, false, false, false, false, false, false, false, false, false, false, false, false, false, false, false, false, false, false, false] rfl rfl (any_of HT_.out (by kernel_rfl)) (fun _ _ _ h => h) (Or.inl ⟨by rfl, ?_⟩) ?_ ?_
  rotate_left
  · intro w'
    go_simp
    with_reducible rfl
  rotate_left
  · simp only [Act.put, List.setIfInBounds_toArray, List.set_cons_zero, List.set_cons_succ, i64_w, i32_w]
    rfl
  refine pure_ (i := 3) (N := some 18) (v := ?_) (a' := ?_) #[true, true, true, true, false, false, false, false, false, false, false, false, false, false, false, false, false, false, false, false, false, false] rfl rfl (any_of HT_.out (by kernel_rfl)) (fun _ _ _ h => h) (Or.inl ⟨by rfl, ?_⟩) ?_ ?_
  rotate_left
  · intro w'
    go_simp
    with_reducible rfl
  rotate_left
  · simp only [Act.put, List.setIfInBounds_toArray, List.set_cons_zero, List.set_cons_succ, i64_w, i32_w]
    rfl
  refine pure_ (i := 4) (N := some 19) (v := ?_) (a' := ?_) #[true, true, true, true, true, false, false, false, false, false, false, false, false, false, false, false, false, false, false, false, false, false] rfl rfl (any_of HT_.out (by kernel_rfl)) (fun _ _ _ h => h) (Or.inl ⟨by rfl, ?_⟩) ?_ ?_
  rotate_left
  · intro w'
    go_simp
    with_reducible rfl
  rotate_left
  · simp only [Act.put, List.setIfInBounds_toArray, List.set_cons_zero, List.set_cons_succ, i64_w, i32_w]
    rfl
  refine pure_ (i := 6) (N := some 21) (v := ?_) (a' := ?_) #[true, true, true, true, true, false, true, false, false, false, false, false, false, false, false, false, false, false, false, false, false, false] rfl rfl (any_of HT_.out (by kernel_rfl)) (fun _ _ _ h => h) (Or.inl ⟨by rfl, ?_⟩) ?_ ?_
  rotate_left
  · intro w'
    go_simp
    with_reducible rfl
  rotate_left
  · simp only [Act.put, List.setIfInBounds_toArray, List.set_cons_zero, List.set_cons_succ, i64_w, i32_w]
    rfl
  refine pure_ (i := 7) (N := some 22) (v := ?_) (a' := ?_) #[true, true, true, true, true, false, true, true, false, false, false, false, false, false, false, false, false, false, false, false, false, false] rfl rfl (any_of HT_.out (by kernel_rfl)) (fun _ _ _ h => h) (Or.inl ⟨by rfl, ?_⟩) ?_ ?_
  rotate_left
  · intro w'
    go_simp
    with_reducible rfl
  rotate_left
  · simp only [Act.put, List.setIfInBounds_toArray, List.set_cons_zero, List.set_cons_succ, i64_w, i32_w]
    rfl
  refine pure_ (i := 8) (N := some 23) (v := ?_) (a' := ?_) #[true, true, true, true, true, false, true, true, true, false, false, false, false, false, false, false, false, false, false, false, false, false] rfl rfl (any_of HT_.out (by kernel_rfl)) (fun _ _ _ h => h) (Or.inl ⟨by rfl, ?_⟩) ?_ ?_
  rotate_left
  · intro w'
    go_simp
    with_reducible rfl
  rotate_left
  · simp only [Act.put, List.setIfInBounds_toArray, List.set_cons_zero, List.set_cons_succ, i64_w, i32_w]
    rfl
  refine pure_ (i := 10) (N := some 25) (v := ?_) (a' := ?_) #[true, true, true, true, true, false, true, true, true, false, true, false, false, false, false, false, false, false, false, false, false, false] rfl rfl (any_of HT_.out (by kernel_rfl)) (fun _ _ _ h => h) (Or.inl ⟨by rfl, ?_⟩) ?_ ?_
  rotate_left
  · intro w'
    go_simp
    with_reducible rfl
  rotate_left
  · simp only [Act.put, List.setIfInBounds_toArray, List.set_cons_zero, List.set_cons_succ, i64_w, i32_w]
    rfl
  refine take_ (i := 5) (N := some 20) (v := ?_) (a' := ?_) #[true, true, true, true, true, true, true, true, true, false, true, false, false, false, false, false, false, false, false, false, false, false] rfl rfl (take_ofW HT_.out HW_.out (by kernel_rfl)) (fun _ _ _ h => h) (Or.inl ⟨by rfl, ?_⟩) hHeld ?_ ?_
  rotate_left
  · intro w' s0
    have y0 : w'.cell? ⟨g, 0, none⟩ = some (.int .u32 (enc s.a)) := (blk_cell s0 0).trans rfl
    have y1 : w'.cell? ⟨g, 1, none⟩ = some (.int .u32 (enc s.b)) := (blk_cell s0 1).trans rfl
    have y2 : w'.cell? ⟨g, 2, none⟩ = some (.int .u32 (enc s.c)) := (blk_cell s0 2).trans rfl
    have y3 : w'.cell? ⟨g, 3, none⟩ = some (.int .u32 (enc s.d)) := (blk_cell s0 3).trans rfl
    have y4 : w'.cell? ⟨g, 4, none⟩ = some (.int .u32 (enc s.e)) := (blk_cell s0 4).trans rfl
    have y5 : w'.cell? ⟨g, 5, none⟩ = some (.int .u32 (enc s.f)) := (blk_cell s0 5).trans rfl
    have y6 : w'.cell? ⟨g, 6, none⟩ = some (.int .u32 (enc s.g)) := (blk_cell s0 6).trans rfl
    have y7 : w'.cell? ⟨g, 7, none⟩ = some (.int .u32 (enc s.h)) := (blk_cell s0 7).trans rfl
    have y8 : w'.cell? ⟨g, 8, none⟩ = some (.string (tx rest)) := (blk_cell s0 8).trans rfl
    go_simp
    with_reducible rfl
  rotate_left
  · simp only [Act.put, List.setIfInBounds_toArray, List.set_cons_zero, List.set_cons_succ, i64_w, i32_w]
    rfl
  refine take_ (i := 9) (N := some 24) (v := ?_) (a' := ?_) #[true, true, true, true, true, true, true, true, true, true, true, false, false, false, false, false, false, false, false, false, false, false] rfl rfl (take_ofW HT_.out HW_.out (by kernel_rfl)) (fun _ _ _ h => h) (Or.inl ⟨by rfl, ?_⟩) hHeld ?_ ?_
  rotate_left
  · intro w' s0
    have y0 : w'.cell? ⟨g, 0, none⟩ = some (.int .u32 (enc s.a)) := (blk_cell s0 0).trans rfl
    have y1 : w'.cell? ⟨g, 1, none⟩ = some (.int .u32 (enc s.b)) := (blk_cell s0 1).trans rfl
    have y2 : w'.cell? ⟨g, 2, none⟩ = some (.int .u32 (enc s.c)) := (blk_cell s0 2).trans rfl
    have y3 : w'.cell? ⟨g, 3, none⟩ = some (.int .u32 (enc s.d)) := (blk_cell s0 3).trans rfl
    have y4 : w'.cell? ⟨g, 4, none⟩ = some (.int .u32 (enc s.e)) := (blk_cell s0 4).trans rfl
    have y5 : w'.cell? ⟨g, 5, none⟩ = some (.int .u32 (enc s.f)) := (blk_cell s0 5).trans rfl
    have y6 : w'.cell? ⟨g, 6, none⟩ = some (.int .u32 (enc s.g)) := (blk_cell s0 6).trans rfl
    have y7 : w'.cell? ⟨g, 7, none⟩ = some (.int .u32 (enc s.h)) := (blk_cell s0 7).trans rfl
    have y8 : w'.cell? ⟨g, 8, none⟩ = some (.string (tx rest)) := (blk_cell s0 8).trans rfl
    go_simp
    with_reducible rfl
  rotate_left
  · simp only [Act.put, List.setIfInBounds_toArray, List.set_cons_zero, List.set_cons_succ, i64_w, i32_w]
    rfl
  refine pure_ (i := 11) (N := some 26) (v := ?_) (a' := ?_) #[true, true, true, true, true, true, true, true, true, true, true, true, false, false, false, false, false, false, false, false, false, false] rfl rfl (any_of HT_.out (by kernel_rfl)) (fun _ _ _ h => h) (Or.inl ⟨by rfl, ?_⟩) ?_ ?_
  rotate_left
  · intro w'
    go_simp
    with_reducible rfl
  rotate_left
  · simp only [Act.put, List.setIfInBounds_toArray, List.set_cons_zero, List.set_cons_succ, i64_w, i32_w]
    rfl
  refine one_ (i := 12) (N := some 27) #[true, true, true, true, true, true, true, true, true, true, true, true, true, false, false, false, false, false, false, false, false, false] rfl rfl (one_of HT_.out (by kernel_rfl)) (by decide) (fun K hK => ?_)
  refine goes_ Try.func36 (by kernel_rfl) rfl #[.agg (vals (lst s)), .string (tx (rest ++ t))] (by rfl) rfl rfl (by (try simp only [List.map_toArray, List.map_cons, List.map_nil]); first | done | rfl) ?_
  with_reducible refine (HCALL _).mono ?_
  rintro e w11 ⟨rfl, hd⟩
  refine ⟨_, rfl, ?_⟩
  have n_C0 := Aside0.mk (blk_below C0.out hd)
  have n_D0 := Aside0.mk (fun B hB hW => below_then (D0.out B hB hW) (Nat.le_trans hW (D0.out B hB hW).size) hd)
  have n_E0 := Aside0.mk (fun i o hi hw => blk_below (E0.out i o hi hw) hd)
  clear C0 D0 E0
  have C0 := n_C0
  have D0 := n_D0
  have E0 := n_E0
  clear n_C0 n_D0 n_E0
  clear hd
  refine hK.out _ _ C0.out (fun hHeld => ?_)
  clear hK K
  refine norm_ (a' := ?_) ?_ ?_
  rotate_left
  · show Act.put _ (some 27) _ = _
    simp only [Act.put, List.setIfInBounds_toArray, List.set_cons_zero, List.set_cons_succ, i64_w, i32_w]
    rfl
  refine pure_ (i := 13) (N := some 14) (v := ?_) (a' := ?_) #[true, true, true, true, true, true, true, true, true, true, true, true, true, true, false, false, false, false, false, false, false, false] rfl rfl (any_of HT_.out (by kernel_rfl)) (fun _ _ _ h => h) (Or.inl ⟨by rfl, ?_⟩) ?_ ?_
  rotate_left
  · intro w'
    go_simp
    with_reducible rfl
  rotate_left
  · simp only [Act.put, List.setIfInBounds_toArray, List.set_cons_zero, List.set_cons_succ, i64_w, i32_w]
    rfl
  refine pure_ (i := 14) (N := some 28) (v := ?_) (a' := ?_) #[true, true, true, true, true, true, true, true, true, true, true, true, true, true, true, false, false, false, false, false, false, false] rfl rfl (any_of HT_.out (by kernel_rfl)) (fun _ _ _ h => h) (Or.inl ⟨by rfl, ?_⟩) ?_ ?_
  rotate_left
  · intro w'
    go_simp
    with_reducible rfl
  rotate_left
  · simp only [Act.put, List.setIfInBounds_toArray, List.set_cons_zero, List.set_cons_succ, i64_w, i32_w]
    rfl
  refine pure_ (i := 15) (N := some 29) (v := ?_) (a' := ?_) #[true, true, true, true, true, true, true, true, true, true, true, true, true, true, true, true, false, false, false, false, false, false] rfl rfl (any_of HT_.out (by kernel_rfl)) (fun _ _ _ h => h) (Or.inl ⟨by rfl, ?_⟩) ?_ ?_
  rotate_left
  · intro w'
    go_simp
    with_reducible rfl
  rotate_left
  · simp only [Act.put, List.setIfInBounds_toArray, List.set_cons_zero, List.set_cons_succ, i64_w, i32_w]
    rfl
  refine pure_ (i := 16) (N := some 30) (v := ?_) (a' := ?_) #[true, true, true, true, true, true, true, true, true, true, true, true, true, true, true, true, true, false, false, false, false, false] rfl rfl (any_of HT_.out (by kernel_rfl)) (fun _ _ _ h => h) (Or.inl ⟨by rfl, ?_⟩) ?_ ?_
  rotate_left
  · intro w'
    go_simp
    with_reducible rfl
  rotate_left
  · simp only [Act.put, List.setIfInBounds_toArray, List.set_cons_zero, List.set_cons_succ, i64_w, i32_w]
    rfl
  refine pure_ (i := 17) (N := some 31) (v := ?_) (a' := ?_) #[true, true, true, true, true, true, true, true, true, true, true, true, true, true, true, true, true, true, false, false, false, false] rfl rfl (any_of HT_.out (by kernel_rfl)) (fun _ _ _ h => h) (Or.inl ⟨by rfl, ?_⟩) ?_ ?_
  rotate_left
  · intro w'
    go_simp
    with_reducible rfl
  rotate_left
  · simp only [Act.put, List.setIfInBounds_toArray, List.set_cons_zero, List.set_cons_succ, i64_w, i32_w]
    rfl
  refine last_ (i := 18) (N := none) #[true, true, true, true, true, true, true, true, true, true, true, true, true, true, true, true, true, true, true, false, false, false] rfl rfl (one_of HT_.out (by kernel_rfl)) (by decide) (fun K hK => ?_)
  have hth : w11.there g 0 8 := fun j hj => ⟨by rw [Nat.zero_add, blk_cell C0.out j]; have : j = 0 ∨ j = 1 ∨ j = 2 ∨ j = 3 ∨ j = 4 ∨ j = 5 ∨ j = 6 ∨ j = 7 := (by omega); rcases this with rfl | rfl | rfl | rfl | rfl | rfl | rfl | rfl <;> rfl, by rw [Nat.zero_add]; exact blk_frozen C0.out j⟩
  rw [if_pos (by rfl)]
  refine wp_store_mid 50 (.tmp 31) (.tmp 28) rfl g 0 #[.int .u32 (enc s2.a), .int .u32 (enc s2.b), .int .u32 (enc s2.c), .int .u32 (enc s2.d), .int .u32 (enc s2.e), .int .u32 (enc s2.f), .int .u32 (enc s2.g), .int .u32 (enc s2.h)] rfl rfl hth i46 (vals_one (lst s2)) ?_
  refine hK.out _ _ ?_
  clear hK K
  refine norm_ (a' := ?_) ?_ ?_
  rotate_left
  · show Act.put _ none _ = _
    simp only [Act.put]
    rfl
  have hW : w11.setCells g 0 (#[.int .u32 (enc s2.a), .int .u32 (enc s2.b), .int .u32 (enc s2.c), .int .u32 (enc s2.d), .int .u32 (enc s2.e), .int .u32 (enc s2.f), .int .u32 (enc s2.g), .int .u32 (enc s2.h)] : Array Value).toList = ((((((((w11.setCell ⟨g, 0, none⟩ (.int .u32 (enc s2.a))).setCell ⟨g, 1, none⟩ (.int .u32 (enc s2.b))).setCell ⟨g, 2, none⟩ (.int .u32 (enc s2.c))).setCell ⟨g, 3, none⟩ (.int .u32 (enc s2.d))).setCell ⟨g, 4, none⟩ (.int .u32 (enc s2.e))).setCell ⟨g, 5, none⟩ (.int .u32 (enc s2.f))).setCell ⟨g, 6, none⟩ (.int .u32 (enc s2.g))).setCell ⟨g, 7, none⟩ (.int .u32 (enc s2.h))) := rfl
  rw [hW]
  clear hW
  have n_C0 : Aside0 (((((((((w11.setCell ⟨g, 0, none⟩ (.int .u32 (enc s2.a))).setCell ⟨g, 1, none⟩ (.int .u32 (enc s2.b))).setCell ⟨g, 2, none⟩ (.int .u32 (enc s2.c))).setCell ⟨g, 3, none⟩ (.int .u32 (enc s2.d))).setCell ⟨g, 4, none⟩ (.int .u32 (enc s2.e))).setCell ⟨g, 5, none⟩ (.int .u32 (enc s2.f))).setCell ⟨g, 6, none⟩ (.int .u32 (enc s2.g))).setCell ⟨g, 7, none⟩ (.int .u32 (enc s2.h))).heap[g]? = some (.cells #[.int .u32 (enc s2.a), .int .u32 (enc s2.b), .int .u32 (enc s2.c), .int .u32 (enc s2.d), .int .u32 (enc s2.e), .int .u32 (enc s2.f), .int .u32 (enc s2.g), .int .u32 (enc s2.h), .string (tx rest), .int .u64 n1] 59 (0, 0))) := ⟨(blk_put (cs := #[.int .u32 (enc s2.a), .int .u32 (enc s2.b), .int .u32 (enc s2.c), .int .u32 (enc s2.d), .int .u32 (enc s2.e), .int .u32 (enc s2.f), .int .u32 (enc s2.g), .int .u32 (enc s.h), .string (tx rest), .int .u64 n1]) (cs' := #[.int .u32 (enc s2.a), .int .u32 (enc s2.b), .int .u32 (enc s2.c), .int .u32 (enc s2.d), .int .u32 (enc s2.e), .int .u32 (enc s2.f), .int .u32 (enc s2.g), .int .u32 (enc s2.h), .string (tx rest), .int .u64 n1]) (blk_put (cs := #[.int .u32 (enc s2.a), .int .u32 (enc s2.b), .int .u32 (enc s2.c), .int .u32 (enc s2.d), .int .u32 (enc s2.e), .int .u32 (enc s2.f), .int .u32 (enc s.g), .int .u32 (enc s.h), .string (tx rest), .int .u64 n1]) (cs' := #[.int .u32 (enc s2.a), .int .u32 (enc s2.b), .int .u32 (enc s2.c), .int .u32 (enc s2.d), .int .u32 (enc s2.e), .int .u32 (enc s2.f), .int .u32 (enc s2.g), .int .u32 (enc s.h), .string (tx rest), .int .u64 n1]) (blk_put (cs := #[.int .u32 (enc s2.a), .int .u32 (enc s2.b), .int .u32 (enc s2.c), .int .u32 (enc s2.d), .int .u32 (enc s2.e), .int .u32 (enc s.f), .int .u32 (enc s.g), .int .u32 (enc s.h), .string (tx rest), .int .u64 n1]) (cs' := #[.int .u32 (enc s2.a), .int .u32 (enc s2.b), .int .u32 (enc s2.c), .int .u32 (enc s2.d), .int .u32 (enc s2.e), .int .u32 (enc s2.f), .int .u32 (enc s.g), .int .u32 (enc s.h), .string (tx rest), .int .u64 n1]) (blk_put (cs := #[.int .u32 (enc s2.a), .int .u32 (enc s2.b), .int .u32 (enc s2.c), .int .u32 (enc s2.d), .int .u32 (enc s.e), .int .u32 (enc s.f), .int .u32 (enc s.g), .int .u32 (enc s.h), .string (tx rest), .int .u64 n1]) (cs' := #[.int .u32 (enc s2.a), .int .u32 (enc s2.b), .int .u32 (enc s2.c), .int .u32 (enc s2.d), .int .u32 (enc s2.e), .int .u32 (enc s.f), .int .u32 (enc s.g), .int .u32 (enc s.h), .string (tx rest), .int .u64 n1]) (blk_put (cs := #[.int .u32 (enc s2.a), .int .u32 (enc s2.b), .int .u32 (enc s2.c), .int .u32 (enc s.d), .int .u32 (enc s.e), .int .u32 (enc s.f), .int .u32 (enc s.g), .int .u32 (enc s.h), .string (tx rest), .int .u64 n1]) (cs' := #[.int .u32 (enc s2.a), .int .u32 (enc s2.b), .int .u32 (enc s2.c), .int .u32 (enc s2.d), .int .u32 (enc s.e), .int .u32 (enc s.f), .int .u32 (enc s.g), .int .u32 (enc s.h), .string (tx rest), .int .u64 n1]) (blk_put (cs := #[.int .u32 (enc s2.a), .int .u32 (enc s2.b), .int .u32 (enc s.c), .int .u32 (enc s.d), .int .u32 (enc s.e), .int .u32 (enc s.f), .int .u32 (enc s.g), .int .u32 (enc s.h), .string (tx rest), .int .u64 n1]) (cs' := #[.int .u32 (enc s2.a), .int .u32 (enc s2.b), .int .u32 (enc s2.c), .int .u32 (enc s.d), .int .u32 (enc s.e), .int .u32 (enc s.f), .int .u32 (enc s.g), .int .u32 (enc s.h), .string (tx rest), .int .u64 n1]) (blk_put (cs := #[.int .u32 (enc s2.a), .int .u32 (enc s.b), .int .u32 (enc s.c), .int .u32 (enc s.d), .int .u32 (enc s.e), .int .u32 (enc s.f), .int .u32 (enc s.g), .int .u32 (enc s.h), .string (tx rest), .int .u64 n1]) (cs' := #[.int .u32 (enc s2.a), .int .u32 (enc s2.b), .int .u32 (enc s.c), .int .u32 (enc s.d), .int .u32 (enc s.e), .int .u32 (enc s.f), .int .u32 (enc s.g), .int .u32 (enc s.h), .string (tx rest), .int .u64 n1]) (blk_put (cs := #[.int .u32 (enc s.a), .int .u32 (enc s.b), .int .u32 (enc s.c), .int .u32 (enc s.d), .int .u32 (enc s.e), .int .u32 (enc s.f), .int .u32 (enc s.g), .int .u32 (enc s.h), .string (tx rest), .int .u64 n1]) (cs' := #[.int .u32 (enc s2.a), .int .u32 (enc s.b), .int .u32 (enc s.c), .int .u32 (enc s.d), .int .u32 (enc s.e), .int .u32 (enc s.f), .int .u32 (enc s.g), .int .u32 (enc s.h), .string (tx rest), .int .u64 n1]) C0.out 0 (.int .u32 (enc s2.a)) rfl) 1 (.int .u32 (enc s2.b)) rfl) 2 (.int .u32 (enc s2.c)) rfl) 3 (.int .u32 (enc s2.d)) rfl) 4 (.int .u32 (enc s2.e)) rfl) 5 (.int .u32 (enc s2.f)) rfl) 6 (.int .u32 (enc s2.g)) rfl) 7 (.int .u32 (enc s2.h)) rfl)⟩
  have n_D0 : Aside0 (∀ B, B ≤ g → B ≤ w.heap.size → Below B w ((((((((w11.setCell ⟨g, 0, none⟩ (.int .u32 (enc s2.a))).setCell ⟨g, 1, none⟩ (.int .u32 (enc s2.b))).setCell ⟨g, 2, none⟩ (.int .u32 (enc s2.c))).setCell ⟨g, 3, none⟩ (.int .u32 (enc s2.d))).setCell ⟨g, 4, none⟩ (.int .u32 (enc s2.e))).setCell ⟨g, 5, none⟩ (.int .u32 (enc s2.f))).setCell ⟨g, 6, none⟩ (.int .u32 (enc s2.g))).setCell ⟨g, 7, none⟩ (.int .u32 (enc s2.h)))) := ⟨fun B hB hW => (below_set' (j := 7) (v := .int .u32 (enc s2.h)) (below_set' (j := 6) (v := .int .u32 (enc s2.g)) (below_set' (j := 5) (v := .int .u32 (enc s2.f)) (below_set' (j := 4) (v := .int .u32 (enc s2.e)) (below_set' (j := 3) (v := .int .u32 (enc s2.d)) (below_set' (j := 2) (v := .int .u32 (enc s2.c)) (below_set' (j := 1) (v := .int .u32 (enc s2.b)) (below_set' (j := 0) (v := .int .u32 (enc s2.a)) (D0.out B hB hW) hB) hB) hB) hB) hB) hB) hB) hB)⟩
  have n_E0 : Aside0 (∀ (i : Nat) (o : Obj), i ≠ g → w.heap[i]? = some o → ((((((((w11.setCell ⟨g, 0, none⟩ (.int .u32 (enc s2.a))).setCell ⟨g, 1, none⟩ (.int .u32 (enc s2.b))).setCell ⟨g, 2, none⟩ (.int .u32 (enc s2.c))).setCell ⟨g, 3, none⟩ (.int .u32 (enc s2.d))).setCell ⟨g, 4, none⟩ (.int .u32 (enc s2.e))).setCell ⟨g, 5, none⟩ (.int .u32 (enc s2.f))).setCell ⟨g, 6, none⟩ (.int .u32 (enc s2.g))).setCell ⟨g, 7, none⟩ (.int .u32 (enc s2.h))).heap[i]? = some o) := ⟨fun i o hi hw => ((Below.heap_setCell _ ⟨g, 7, none⟩ (.int .u32 (enc s2.h)) i hi).trans ((Below.heap_setCell _ ⟨g, 6, none⟩ (.int .u32 (enc s2.g)) i hi).trans ((Below.heap_setCell _ ⟨g, 5, none⟩ (.int .u32 (enc s2.f)) i hi).trans ((Below.heap_setCell _ ⟨g, 4, none⟩ (.int .u32 (enc s2.e)) i hi).trans ((Below.heap_setCell _ ⟨g, 3, none⟩ (.int .u32 (enc s2.d)) i hi).trans ((Below.heap_setCell _ ⟨g, 2, none⟩ (.int .u32 (enc s2.c)) i hi).trans ((Below.heap_setCell _ ⟨g, 1, none⟩ (.int .u32 (enc s2.b)) i hi).trans ((Below.heap_setCell _ ⟨g, 0, none⟩ (.int .u32 (enc s2.a)) i hi).trans (E0.out i o hi hw)))))))))⟩
  clear C0 D0 E0 hth
  generalize ((((((((w11.setCell ⟨g, 0, none⟩ (.int .u32 (enc s2.a))).setCell ⟨g, 1, none⟩ (.int .u32 (enc s2.b))).setCell ⟨g, 2, none⟩ (.int .u32 (enc s2.c))).setCell ⟨g, 3, none⟩ (.int .u32 (enc s2.d))).setCell ⟨g, 4, none⟩ (.int .u32 (enc s2.e))).setCell ⟨g, 5, none⟩ (.int .u32 (enc s2.f))).setCell ⟨g, 6, none⟩ (.int .u32 (enc s2.g))).setCell ⟨g, 7, none⟩ (.int .u32 (enc s2.h))) = w12 at n_C0 n_D0 n_E0 ⊢
  have C0 := n_C0
  have D0 := n_D0
  have E0 := n_E0
  clear n_C0 n_D0 n_E0
  refine pure_ (i := 19) (N := some 32) (v := ?_) (a' := ?_) #[true, true, true, true, true, true, true, true, true, true, true, true, true, true, true, true, true, true, true, true, false, false] rfl rfl (any_of HT_.out (by kernel_rfl)) (fun _ _ _ h => h) (Or.inl ⟨by rfl, ?_⟩) ?_ ?_
  rotate_left
  · intro w'
    go_simp
    with_reducible rfl
  rotate_left
  · simp only [Act.put, List.setIfInBounds_toArray, List.set_cons_zero, List.set_cons_succ, i64_w, i32_w]
    rfl
  refine pure_ (i := 20) (N := some 33) (v := ?_) (a' := ?_) #[true, true, true, true, true, true, true, true, true, true, true, true, true, true, true, true, true, true, true, true, true, false] rfl rfl (any_of HT_.out (by kernel_rfl)) (fun _ _ _ h => h) (Or.inl ⟨by rfl, ?_⟩) ?_ ?_
  rotate_left
  · intro w'
    go_simp
    with_reducible rfl
  rotate_left
  · simp only [Act.put, List.setIfInBounds_toArray, List.set_cons_zero, List.set_cons_succ, i64_w, i32_w]
    rfl
  refine last_ (i := 21) (N := none) #[true, true, true, true, true, true, true, true, true, true, true, true, true, true, true, true, true, true, true, true, true, true] rfl rfl (one_of HT_.out (by kernel_rfl)) (by decide) (fun K hK => ?_)
  have z8 : w12.cell? ⟨g, 8, none⟩ = some (.string (tx rest)) := (blk_cell C0.out 8).trans rfl
  have f8 := blk_frozen C0.out 8
  refine skip_ (w1 := ?_) (by rfl) rfl ?_ ?_
  rotate_left
  · go_simp
    rfl
  refine hK.out _ _ ?_
  clear hK K
  have n_C0 : Aside0 ((w12.setCell ⟨g, 8, none⟩ (.string (tx r2))).heap[g]? = some (.cells (wc s2 r2 n1) 59 (0, 0))) := ⟨blk_put C0.out 8 _ rfl⟩
  have n_D0 : Aside0 (∀ B, B ≤ g → B ≤ w.heap.size → Below B w (w12.setCell ⟨g, 8, none⟩ (.string (tx r2)))) := ⟨fun B hB hW => below_set' (D0.out B hB hW) hB⟩
  have n_E0 : Aside0 (∀ (i : Nat) (o : Obj), i ≠ g → w.heap[i]? = some o → (w12.setCell ⟨g, 8, none⟩ (.string (tx r2))).heap[i]? = some o) := ⟨fun i o hi hw => (Below.heap_setCell _ ⟨g, 8, none⟩ _ i hi).trans (E0.out i o hi hw)⟩
  clear C0 D0 E0 z8 f8
  generalize w12.setCell ⟨g, 8, none⟩ (.string (tx r2)) = w13 at n_C0 n_D0 n_E0 ⊢
  have C0 := n_C0
  have D0 := n_D0
  have E0 := n_E0
  clear n_C0 n_D0 n_E0
  refine done_ (done_of HT_.out (by kernel_rfl)) ?_
  have y8 : w13.cell? ⟨g, 8, none⟩ = some (.string (tx r2)) := (blk_cell C0.out 8).trans rfl
  have hr2 : (tx r2).size ≤ 140737488355328 := by
    have h1 := blk8_mod s (rest ++ t)
    rw [HB2.out] at h1
    rw [tx_size, h1]
    have := Nat.mod_lt (rest ++ t).length (show 0 < 64 by decide)
    omega
  go_wp2_with (go_at_call 37; (with_reducible refine (clone_calls (tx r2) _ hr2).mono ?_); rintro e w14 ⟨rfl, hd⟩; have C1 := Aside0.mk (blk_below C0.out hd); have D1 : Aside0 (∀ B, B ≤ g → B ≤ w.heap.size → Below B w w14) := ⟨fun B hB hW => below_then (D0.out B hB hW) (Nat.le_trans hW (D0.out B hB hW).size) hd⟩; have E1 : Aside0 (∀ (i : Nat) (o : Obj), i ≠ g → w.heap[i]? = some o → w14.heap[i]? = some o) := ⟨fun i o hi hw => blk_below (E0.out i o hi hw) hd⟩; have z8 : w14.cell? ⟨g, 8, none⟩ = some (.string (tx r2)) := (blk_cell C1.out 8).trans rfl; have f8 := blk_frozen C1.out 8; clear hd)
  refine bodyPost_end (v := .tuple #[]) (by simp [results, show Try.f29.results = #[] from rfl]) rfl ?_
  refine ⟨rfl, ?_, ?_⟩
  · rw [HB2.out, ← HN.out]
    exact blk_put C1.out 8 _ rfl
  · exact ⟨fun B hB hW => below_set' (D1.out B hB hW) hB, fun i o hi hw => (Below.heap_setCell _ ⟨g, 8, none⟩ _ i hi).trans (E1.out i o hi hw)⟩
end Go.Proofs.Ythpnppfpmhlkaaa.Sha
