/- Chapter 2: the document's Sum. -/
import Derived.Test.YthpnppfpmhlkaaaShaH
import Derived.Test.YthpnppfpmhlkaaaShaM
import Derived.Test.YthpnppfpmhlkaaaShaE
import Derived.Test.YthpnppfpmhlkaaaShaF
namespace Go.Proofs.Ythpnppfpmhlkaaa.Sha
open Go.RowKit Go.Proofs.Ythpnppfpmhlkaaa.X Go.Proofs.YthpnppfpmhlkaaaW.PrintWords Go.Proofs.YthpnppfpmhlkaaaW.PrintLast Go.Proofs.YthpnppfpmhlkaaaW.PrintMore
set_option linter.unusedVariables false
set_option linter.unusedSimpArgs false

def dsu.T7 : Bool × List (List Nat × List Nat) := (true, [([], []), ([], []), ([], []), ([], []), ([3], [3]), ([1, 2, 4], [1, 2, 4]), ([], []), ([0, 5, 6], [0, 5, 6]), ([7, 7, 0, 1, 2, 3, 4, 5, 6, 7], [7])])
def dsu.B7 : List Nat := [0, 0, 0, 0, 8, 30, 0, 127, 255]
theorem dsu.tab7 : rtab .any (opsOf Try.f25 7) = dsu.T7 := by kernel_rfl
theorem dsu.bits7 : waitsOk dsu.T7.2 dsu.B7 = true := by kernel_rfl
/-- The numbers behind n whole blocks. -/
theorem blk_next (M : List UInt8) (n : Nat) (h : 64 * n + 64 ≤ M.length) : (blk8 H0 (M.take (64 * (n + 1)))).1 = turn K0 (blk8 H0 (M.take (64 * n))).1 ((M.drop (64 * n)).take 64) := by
  have e : M.take (64 * (n + 1)) = M.take (64 * n) ++ (M.drop (64 * n)).take 64 := by
    rw [show 64 * (n + 1) = 64 * n + 64 by omega, List.take_add]
  have h0 : (blk8 H0 (M.take (64 * n))).2 = [] := by
    have := blk8_mod H0 (M.take (64 * n))
    rw [List.length_take] at this
    exact List.eq_nil_of_length_eq_zero (by omega)
  rw [e, ← blk8_append, h0, List.nil_append]
  exact blk_one _ _ (by rw [List.length_take, List.length_drop]; omega)
theorem row_cells {W : World} {g : Nat} {cur : Array Value} {M : List UInt8} (hh : W.heap[g]? = some (.cells cur 5 (0, 0))) (ht : cur.toList.take (M.length * 1) = Lib.byteCells M) (o : Nat) (ho : o + 64 ≤ M.length) :
    ∀ i, i < 64 → W.cell? ⟨g, o + i, none⟩ = some (.int .u8 (enc (byte ((M.drop o).take 64) i))) := by
  intro i hi
  rw [blk_cell hh, ← Array.getElem?_toList]
  have h1 : (cur.toList.take (M.length * 1))[o + i]? = (Lib.byteCells M)[o + i]? := by rw [ht]
  rw [List.getElem?_take, if_pos (by omega)] at h1
  rw [h1]
  have hv : ((M.drop o).take 64).getD i 0 = M[o + i]'(by omega) := by
    rw [List.getD_eq_getElem?_getD, List.getElem?_take, if_pos hi, List.getElem?_drop, List.getElem?_eq_getElem (by omega)]; rfl
  unfold enc byte
  rw [hv]
  have hb := (M[o + i]'(by omega)).toNat_lt
  rw [BitVec.toNat_ofNat]
  simp [Lib.byteCells, List.getElem?_eq_getElem (show o + i < M.length by omega)]
set_option maxHeartbeats 8000000 in
set_option maxRecDepth 100000 in
theorem rsum_calls (l : List UInt8) (w : World) (hl : l.length ≤ 140737488355328) :
    Calls Try.prog 25 #[.string (tx l)] w fun e w' => e = .returned (B32 (sumF l)) ∧ Below w.heap.size w w' := by
  have i24 : (Try.prog.info? 23).map (·.size) = some 32 := by kernel_rfl
  have i46 : (Try.prog.info? 50).map (·.size) = some 8 := by kernel_rfl
  have i47 : (Try.prog.info? 51).map (·.size) = some 64 := by kernel_rfl
  have hvH : (vals (lst H0)).size = 8 := rfl
  have hvK : (vals K0).size = 64 := rfl
  have hzz : (brw 32 []).size = 32 := rfl
  have HLB := Aside0.mk hl
  obtain ⟨M, hM⟩ : ∃ M, M = l ++ tailOf l.length (BitVec.ofNat 64 (8 * l.length)) := ⟨_, rfl⟩
  have hMS : sumF l = out8 (blk8 H0 M).1 := by rw [hM]; rfl
  have hM64 : M.length % 64 = 0 := by rw [hM]; exact tail_whole l _
  have hMlen : M.length ≤ l.length + 72 := by
    rw [hM]; unfold tailOf be8
    have := pz_lt l.length
    rw [List.length_append, List.length_append, List.length_append, List.length_replicate, List.length_map, List.length_range, List.length_singleton]; omega
  have hM0 : 0 < M.length := by
    rw [hM]; unfold tailOf
    rw [List.length_append, List.length_append, List.length_append, List.length_singleton]; omega
  have hPAD : ∀ W : World, Calls Try.prog 32 #[.string (tx l)] W fun e w' => ∃ v, e = .returned v ∧ ORow W.heap.size v M w' ∧ Below W.heap.size W w' := fun W => by rw [hM]; exact padded_calls l W hl
  obtain ⟨R, hR⟩ : ∃ R, R = out8 (blk8 H0 M).1 := ⟨_, rfl⟩
  rw [hMS, ← hR]
  have HRR := Aside0.mk hR
  clear hR
  have HMM := Aside0.mk hM
  clear hM hMS hl
  go_enter Try.func25, Try.ntmps25
  go_upto_region 2 with (fail)
  change Code.wp _ _ _ _ ((w.alloc (.cells (brw 32 []) 23)).alloc (.cells (vals (lst H0)) 50))
  have C2 : Aside0 (((w.alloc (.cells (brw 32 []) 23)).alloc (.cells (vals (lst H0)) 50)).heap[w.heap.size]? = some (.cells (brw 32 []) 23 (0, 0))) := ⟨blk_below (blk_new w (.cells (brw 32 []) 23)) (below_alloc (Below.refl _ _) _)⟩
  have C3 : Aside0 (((w.alloc (.cells (brw 32 []) 23)).alloc (.cells (vals (lst H0)) 50)).heap[w.heap.size + 1]? = some (.cells (vals (lst H0)) 50 (0, 0))) := ⟨alloc_second _ _ _⟩
  have D0 := Aside0.mk (below_alloc (below_alloc (Below.refl w.heap.size w) (.cells (brw 32 []) 23)) (.cells (vals (lst H0)) 50))
  generalize (w.alloc (.cells (brw 32 []) 23)).alloc (.cells (vals (lst H0)) 50) = w1 at C2 C3 D0 ⊢
  obtain ⟨g2, hg2⟩ : ∃ g, g = w.heap.size := ⟨_, rfl⟩
  obtain ⟨g3, hg3⟩ : ∃ g, g = w.heap.size + 1 := ⟨_, rfl⟩
  have P2 : (Value.pointer (some ⟨w.heap.size, 0, none⟩)) = .pointer (some ⟨g2, 0, none⟩) := by rw [hg2]
  have P3 : (Value.pointer (some ⟨w.heap.size + 1, 0, none⟩)) = .pointer (some ⟨g3, 0, none⟩) := by rw [hg3]
  rw [P2, P3]
  rw [← hg2] at C2
  rw [← hg3] at C3
  have G2 : Aside0 (w.heap.size ≤ g2) := ⟨by omega⟩
  have G3 : Aside0 (w.heap.size ≤ g3) := ⟨by omega⟩
  have N23 : Aside0 (g2 ≠ g3) := ⟨by omega⟩
  clear P2 P3 hg2 hg3
  go_wp2_with (first
    | (go_at_call 31; (with_reducible refine (rconstants_calls _).mono ?_); rintro e w2 ⟨rfl, hd⟩; have n_C2 := Aside0.mk (blk_below C2.out hd); have n_C3 := Aside0.mk (blk_below C3.out hd); have n_D0 := Aside0.mk (below_then D0.out D0.out.size hd); clear C2 C3 D0 hd; have C2 := n_C2; have C3 := n_C3; have D0 := n_D0; clear n_C2 n_C3 n_D0)
    | ((with_reducible refine gate_store rfl ?_); refine wpList_store_row rfl 51 (.tmp 4) (.tmp 10) rfl w2.heap.size (vals K0) rfl rfl 51 _ (blk_new _ _) (by rw [hvK]; exact i47) rfl (vals_one _) ?_)
    | (go_at_call 32; change Calls Try.prog 32 _ ((w2.alloc (.cells (row 64 []) 51)).setRow w2.heap.size (vals K0)) _; (with_reducible refine (hPAD _).mono ?_); rintro e w5 ⟨v5, rfl, hr, hb⟩; have hq := below_setRow (below_alloc (Below.refl w2.heap.size w2) (.cells (row 64 []) 51)) (Nat.le_refl _) (vals K0); have hk := setRow_heap _ w2.heap.size _ (vals K0) _ _ (blk_new w2 (.cells (row 64 []) 51)); have L3 := Aside0.mk (blk_lt (blk_below C3.out hq)); have L2 := Aside0.mk (blk_lt (blk_below C2.out hq)); have L4 := Aside0.mk (blk_lt hk); have M3 := Aside0.mk (blk_lt C3.out); have M2 := Aside0.mk (blk_lt C2.out); have C4 := Aside0.mk (blk_below hk hb); have n_C2 := Aside0.mk (blk_below (blk_below C2.out hq) hb); have n_C3 := Aside0.mk (blk_below (blk_below C3.out hq) hb); have n_D0 := Aside0.mk (below_then (below_setRow (below_alloc D0.out (.cells (row 64 []) 51)) D0.out.size (vals K0)) (below_setRow (below_alloc D0.out (.cells (row 64 []) 51)) D0.out.size (vals K0)).size hb); have HR := Aside0.mk hr; clear C2 C3 D0 hb hq hr hk; have C2 := n_C2; have C3 := n_C3; have D0 := n_D0; clear n_C2 n_C3 n_D0))
  obtain ⟨g4, hg4⟩ : ∃ g, g = w2.heap.size := ⟨_, rfl⟩
  have P4 : (Value.pointer (some ⟨w2.heap.size, 0, none⟩)) = .pointer (some ⟨g4, 0, none⟩) := by rw [hg4]
  rw [P4]
  rw [← hg4] at C4
  have N24 : Aside0 (g2 ≠ g4) := ⟨by have := M2.out; omega⟩
  have N34 : Aside0 (g3 ≠ g4) := ⟨by have := M3.out; omega⟩
  obtain ⟨hr1, hr2⟩ := HR.out
  rcases hr2 with ⟨_, h0⟩ | ⟨g5, cap, cur, ev, hg5, hh5, hcap, hmax, hsz, htk⟩
  · omega
  subst ev
  have CM := Aside0.mk hh5
  have N35 : Aside0 (g5 ≠ g3) := ⟨by have := L3.out; omega⟩
  have N25 : Aside0 (g5 ≠ g2) := ⟨by have := L2.out; omega⟩
  clear P4 hg4 hr1 hg5 hh5 hsz HR L2 L3 L4 M2 M3
  have HTK := Aside0.mk htk
  clear htk
  go_loopw [6] (fun k W => ∃ n o : Nat, o = 64 * n ∧ o ≤ M.length ∧ k = .int .i64 o ∧ Aside0 (W.heap[g3]? = some (.cells (vals (lst (blk8 H0 (M.take o)).1)) 50 (0, 0))) ∧ Aside0 (W.heap[g2]? = some (.cells (brw 32 []) 23 (0, 0))) ∧ Aside0 (W.heap[g4]? = some (.cells (vals K0) 51 (0, 0))) ∧ Aside0 (W.heap[g5]? = some (.cells cur 5 (0, 0))) ∧ Aside0 (Below w.heap.size w W)) (fun k _ => M.length - (intOf k).toNat)
  case atStart =>
    have e0 : (blk8 H0 (M.take 0)).1 = H0 := by rw [List.take_zero, blk8_short H0 [] (by decide)]
    exact ⟨0, 0, rfl, Nat.zero_le _, rfl, ⟨by rw [e0]; exact C3.out⟩, C2, C4, CM, D0⟩
  case round =>
    clear C2 C3 C4 CM D0
    obtain ⟨n, o, ho, hoM, rfl, C3, C2, C4, CM, D0⟩ := hrel
    obtain ⟨s, hs⟩ : ∃ s, s = (blk8 H0 (M.take o)).1 := ⟨_, rfl⟩
    rw [← hs] at C3
    by_cases hlt : o < M.length
    · have q1 : ((o : Int) < (M.length : Int)) = True := eq_true (by omega)
      have ho64 : o + 64 ≤ M.length := by omega
      have hL := HLB.out
      have hw : o + 64 ≤ 9223372036854775807 := by omega
      obtain ⟨e, he⟩ : ∃ e, e = o + 64 := ⟨_, rfl⟩
      have hwr : wrap64 ((o : Int) + 64) = (e : Int) := by unfold wrap64; omega
      have hce : (e ≤ cap) = True := eq_true (by omega)
      have hce' : ((e : Int) ≤ (cap : Int)) = True := eq_true (by omega)
      have hoe : (o ≤ e) = True := eq_true (by omega)
      have hoe' : ((o : Int) ≤ (e : Int)) = True := eq_true (by omega)
      have hne : (cap = o) = False := eq_false (by omega)
      have he64 : e - o = 64 := by omega
      have HE := Aside0.mk he
      have heM : Aside0 (e ≤ M.length) := ⟨by omega⟩
      obtain ⟨s1, hs1⟩ : ∃ s1, s1 = turn K0 s ((M.drop o).take 64) := ⟨_, rfl⟩
      have HS1 : Aside0 ((blk8 H0 (M.take (o + 64))).1 = s1) := ⟨by
        have := blk_next M n (by omega)
        rw [show 64 * (n + 1) = o + 64 by omega, show 64 * n = o by omega, ← hs, ← hs1] at this
        exact this⟩
      have HCALL : ∀ W : World, W.heap[g5]? = some (.cells cur 5 (0, 0)) → Calls Try.prog 33 #[.agg (vals (lst s)), .slice (some ⟨g5, o, none⟩) 64 (cap - o), .agg (vals K0)] W fun e w' => e = .returned (.agg (vals (lst s1))) ∧ Below W.heap.size W w' := fun W hk => by
        rw [hs1]; exact block_calls s g5 o (cap - o) ((M.drop o).take 64) K0 W K0_len (blk_lt hk) (row_cells hk HTK.out o ho64)
      clear hs1 hL hs he hw
      have HO := Aside0.mk ho
      clear ho
      go_upto_region 7 with (fail)
      refine start_ (n := 9) (S := fun W => W.heap[g3]? = some (.cells (vals (lst s)) 50 (0, 0)) ∧ W.heap[g4]? = some (.cells (vals K0) 51 (0, 0))) (ds := [8]) #[false, false, false, false, false, false, false, false, false] (by kernel_rfl) rfl rfl ⟨blk_drew C3.out, blk_drew C4.out⟩ (fun hHeld => ?_); refine with_tabW dsu.tab7 dsu.bits7 (fun HT_ HW_ => ?_)
      have n_C2 := Aside0.mk (blk_drew C2.out)
      have n_C3 := Aside0.mk (blk_drew C3.out)
      have n_C4 := Aside0.mk (blk_drew C4.out)
      have n_CM := Aside0.mk (blk_drew CM.out)
      have n_D0 := Aside0.mk (below_drew1 D0.out)
      clear C2 C3 C4 CM D0
      have C2 := n_C2
      have C3 := n_C3
      have C4 := n_C4
      have CM := n_CM
      have D0 := n_D0
      clear n_C2 n_C3 n_C4 n_CM n_D0
      generalize World.drew _ = wR at C2 C3 C4 CM D0 hHeld ⊢
      refine pure_ (i := 1) (N := some 20) (v := ?_) (a' := ?_) #[false, true, false, false, false, false, false, false, false] rfl rfl (any_of HT_.out (by kernel_rfl)) (fun _ _ _ h => h) (Or.inl ⟨by rfl, ?_⟩) ?_ ?_
      rotate_left
      · intro w'
        go_simp
        with_reducible rfl
      rotate_left
      · simp only [Act.put, List.setIfInBounds_toArray, List.set_cons_zero, List.set_cons_succ, i64_w, i32_w]
        rfl
      refine pure_ (i := 2) (N := some 21) (v := ?_) (a' := ?_) #[false, true, true, false, false, false, false, false, false] rfl rfl (any_of HT_.out (by kernel_rfl)) (fun _ _ _ h => h) (Or.inl ⟨by rfl, ?_⟩) ?_ ?_
      rotate_left
      · intro w'
        go_simp
        with_reducible rfl
      rotate_left
      · simp only [Act.put, List.setIfInBounds_toArray, List.set_cons_zero, List.set_cons_succ, i64_w, i32_w]
        rfl
      refine pure_ (i := 3) (N := some 22) (v := ?_) (a' := ?_) #[false, true, true, true, false, false, false, false, false] rfl rfl (any_of HT_.out (by kernel_rfl)) (fun _ _ _ h => h) (Or.inl ⟨by rfl, ?_⟩) ?_ ?_
      rotate_left
      · intro w'
        go_simp
        with_reducible rfl
      rotate_left
      · simp only [Act.put, List.setIfInBounds_toArray, List.set_cons_zero, List.set_cons_succ, i64_w, i32_w]
        rfl
      refine pure_ (i := 4) (N := some 23) (v := ?_) (a' := ?_) #[false, true, true, true, true, false, false, false, false] rfl rfl (any_of HT_.out (by kernel_rfl)) (fun _ _ _ h => h) (Or.inl ⟨by rfl, ?_⟩) ?_ ?_
      rotate_left
      · intro w'
        go_simp
        with_reducible rfl
      rotate_left
      · simp only [Act.put, List.setIfInBounds_toArray, List.set_cons_zero, List.set_cons_succ, i64_w, i32_w]
        rfl
      refine pure_ (i := 5) (N := some 24) (v := ?_) (a' := ?_) #[false, true, true, true, true, true, false, false, false] rfl rfl (any_of HT_.out (by kernel_rfl)) (fun _ _ _ h => h) (Or.inl ⟨by rfl, ?_⟩) ?_ ?_
      rotate_left
      · intro w'
        go_simp
        with_reducible rfl
      rotate_left
      · simp only [Act.put, List.setIfInBounds_toArray, List.set_cons_zero, List.set_cons_succ, i64_w, i32_w]
        rfl
      refine take_ (i := 0) (N := some 19) (v := ?_) (a' := ?_) #[true, true, true, true, true, true, false, false, false] rfl rfl (take_ofW HT_.out HW_.out (by kernel_rfl)) (fun _ _ _ h => h) (Or.inl ⟨by rfl, ?_⟩) hHeld ?_ ?_
      rotate_left
      · rintro w' ⟨s0, s1⟩
        refine exec_load_row 50 (.tmp 3) ?_ g3 ?_ 50 (vals (lst s)) (0, 0) _ s0 Try.underlying50 ?_ i46 <;> rfl
      rotate_left
      · simp only [Act.put, List.setIfInBounds_toArray, List.set_cons_zero, List.set_cons_succ, i64_w, i32_w]
        rfl
      refine take_ (i := 6) (N := some 25) (v := ?_) (a' := ?_) #[true, true, true, true, true, true, true, false, false] rfl rfl (take_ofW HT_.out HW_.out (by kernel_rfl)) (fun _ _ _ h => h) (Or.inl ⟨by rfl, ?_⟩) hHeld ?_ ?_
      rotate_left
      · rintro w' ⟨s0, s1⟩
        refine exec_load_row 51 (.tmp 4) ?_ g4 ?_ 51 (vals K0) (0, 0) _ s1 Try.underlying51 ?_ i47 <;> rfl
      rotate_left
      · simp only [Act.put, List.setIfInBounds_toArray, List.set_cons_zero, List.set_cons_succ, i64_w, i32_w]
        rfl
      refine one_ (i := 7) (N := some 26) #[true, true, true, true, true, true, true, true, false] rfl rfl (one_of HT_.out (by kernel_rfl)) (by decide) (fun K hK => ?_)
      refine goes_ Try.func33 (by kernel_rfl) rfl #[.agg (vals (lst s)), .slice (some ⟨g5, o, none⟩) 64 (cap - o), .agg (vals K0)] (by rfl) rfl rfl (by (try simp only [List.map_toArray, List.map_cons, List.map_nil]); first | done | rfl) ?_
      with_reducible refine (HCALL _ CM.out).mono ?_
      rintro e w11 ⟨rfl, hd⟩
      refine ⟨_, rfl, ?_⟩
      have n_C2 := Aside0.mk (blk_below C2.out hd)
      have n_C3 := Aside0.mk (blk_below C3.out hd)
      have n_C4 := Aside0.mk (blk_below C4.out hd)
      have n_CM := Aside0.mk (blk_below CM.out hd)
      have n_D0 := Aside0.mk (below_then D0.out D0.out.size hd)
      clear C2 C3 C4 CM D0
      have C2 := n_C2
      have C3 := n_C3
      have C4 := n_C4
      have CM := n_CM
      have D0 := n_D0
      clear n_C2 n_C3 n_C4 n_CM n_D0
      clear hd
      refine hK.out _ _ ⟨C3.out, C4.out⟩ (fun hHeld => ?_)
      clear hK K
      refine norm_ (a' := ?_) ?_ ?_
      rotate_left
      · show Act.put _ (some 26) _ = _
        simp only [Act.put, List.setIfInBounds_toArray, List.set_cons_zero, List.set_cons_succ, i64_w, i32_w]
        rfl
      refine last_ (i := 8) (N := none) #[true, true, true, true, true, true, true, true, true] rfl rfl (one_of HT_.out (by kernel_rfl)) (by decide) (fun K hK => ?_)
      rw [if_pos (by rfl)]
      refine wp_store_row 50 (.tmp 3) (.tmp 26) rfl g3 (vals (lst s1)) rfl rfl 50 _ C3.out (by rw [show (vals (lst s1)).size = 8 from rfl]; exact i46) rfl (vals_one _) ?_
      refine hK.out _ _ ?_
      clear hK K
      refine norm_ (a' := ?_) ?_ ?_
      rotate_left
      · show Act.put _ none _ = _
        simp only [Act.put]
        rfl
      refine done_ (done_of HT_.out (by kernel_rfl)) ?_
      go_wp2
      go_roundw
      case rel => exact ⟨n + 1, e, by have := HO.out; have := HE.out; omega, heM.out, congrArg (Value.int .i64) hwr, ⟨by rw [HE.out, HS1.out]; exact setRow_heap _ g3 _ _ _ _ C3.out⟩, ⟨(setRow_other _ g3 _ _ N23.out).trans C2.out⟩, ⟨(setRow_other _ g3 _ _ (fun e => N34.out e.symm)).trans C4.out⟩, ⟨(setRow_other _ g3 _ _ N35.out).trans CM.out⟩, ⟨below_setRow D0.out G3.out _⟩⟩
      case measure =>
        rw [hwr]
        simp only [intOf, Int.toNat_natCast]
        have h1 := HE.out
        omega
    · obtain rfl : o = M.length := by omega
      have q1 : ((M.length : Int) < (M.length : Int)) = False := eq_false (by omega)
      obtain ⟨S, hS⟩ : ∃ S, S = s := ⟨_, rfl⟩
      rw [← hS] at C3
      have HS : Aside0 (R = out8 S) := ⟨by rw [HRR.out, hS, hs, List.take_length]⟩
      clear hS hs
      have hO := out8_len S
      go_upto_region 9 with (fail)
      change Code.wp _ _ _ _ (wr.alloc (.cells (brw 32 []) 23))
      have C7 : Aside0 ((wr.alloc (.cells (brw 32 ((out8 S).take 0)) 23)).heap[wr.heap.size]? = some (.cells (brw 32 ((out8 S).take 0)) 23 (0, 0))) := ⟨blk_new _ _⟩
      have n_C3 := Aside0.mk (blk_below C3.out (below_alloc (Below.refl _ _) (.cells (brw 32 []) 23)))
      have n_C2 := Aside0.mk (blk_below C2.out (below_alloc (Below.refl _ _) (.cells (brw 32 []) 23)))
      have E1 := Aside0.mk (below_alloc D0.out (.cells (brw 32 []) 23))
      have G7 : Aside0 (w.heap.size ≤ wr.heap.size) := ⟨D0.out.size⟩
      have N37 : Aside0 (g3 ≠ wr.heap.size) := ⟨by have := blk_lt C3.out; omega⟩
      have N27 : Aside0 (g2 ≠ wr.heap.size) := ⟨by have := blk_lt C2.out; omega⟩
      clear C3 C2 C4 CM D0
      have C3 := n_C3
      have C2 := n_C2
      clear n_C3 n_C2
      obtain ⟨g7, hg7⟩ : ∃ g, g = wr.heap.size := ⟨_, rfl⟩
      have P7 : (Value.pointer (some ⟨wr.heap.size, 0, none⟩)) = .pointer (some ⟨g7, 0, none⟩) := by rw [hg7]
      rw [P7]
      rw [← hg7] at C7 G7 N37 N27
      clear P7 hg7
      rw [List.take_zero] at C7
      generalize wr.alloc (.cells (brw 32 []) 23) = wU at C7 C3 C2 E1 ⊢
      go_wp2
      go_loopw [8] (fun v W => ∃ i : Nat, i ≤ 32 ∧ v = .int .i64 i ∧ Aside0 (W.heap[g7]? = some (.cells (brw 32 ((out8 S).take i)) 23 (0, 0))) ∧ Aside0 (W.heap[g3]? = some (.cells (vals (lst S)) 50 (0, 0))) ∧ Aside0 (W.heap[g2]? = some (.cells (brw 32 []) 23 (0, 0))) ∧ Aside0 (Below w.heap.size w W)) (fun v _ => 32 - (intOf v).toNat)
      case atStart => exact ⟨0, Nat.zero_le _, rfl, C7, C3, C2, E1⟩
      case round =>
        clear C7 C3 C2 E1
        obtain ⟨i, hi, rfl, C7, C3, C2, E1⟩ := hrel
        have cases : i = 0 ∨ i = 1 ∨ i = 2 ∨ i = 3 ∨ i = 4 ∨ i = 5 ∨ i = 6 ∨ i = 7 ∨ i = 8 ∨ i = 9 ∨ i = 10 ∨ i = 11 ∨ i = 12 ∨ i = 13 ∨ i = 14 ∨ i = 15 ∨ i = 16 ∨ i = 17 ∨ i = 18 ∨ i = 19 ∨ i = 20 ∨ i = 21 ∨ i = 22 ∨ i = 23 ∨ i = 24 ∨ i = 25 ∨ i = 26 ∨ i = 27 ∨ i = 28 ∨ i = 29 ∨ i = 30 ∨ i = 31 ∨ i = 32 := by omega
        rcases cases with rfl | rfl | rfl | rfl | rfl | rfl | rfl | rfl | rfl | rfl | rfl | rfl | rfl | rfl | rfl | rfl | rfl | rfl | rfl | rfl | rfl | rfl | rfl | rfl | rfl | rfl | rfl | rfl | rfl | rfl | rfl | rfl | rfl
        · have hx : wr.cell? ⟨g3, 0, none⟩ = some (.int .u32 (enc S.a)) := (blk_cell C3.out 0).trans rfl
          have hz : wr.cell? ⟨g7, 0, none⟩ = some (.int .u8 0) := (blk_cell C7.out 0).trans (brw_new 32 _ 0 (by rw [List.length_take]; omega) (by decide))
          have hf := blk_frozen C7.out 0
          go_wp2
          go_roundw
          case rel => exact ⟨1, by omega, by go_num, ⟨(blk_put C7.out 0 _ rfl).trans (congrArg some (by rw [out_step S 0 S.a 0 16777216 rfl rfl (by decide)]))⟩, ⟨blk_far C3.out (p := ⟨g7, 0, none⟩) N37.out _⟩, ⟨blk_far C2.out (p := ⟨g7, 0, none⟩) N27.out _⟩, ⟨below_set' E1.out G7.out⟩⟩
          case measure => simp [intOf]
        · have hx : wr.cell? ⟨g3, 0, none⟩ = some (.int .u32 (enc S.a)) := (blk_cell C3.out 0).trans rfl
          have hz : wr.cell? ⟨g7, 1, none⟩ = some (.int .u8 0) := (blk_cell C7.out 1).trans (brw_new 32 _ 1 (by rw [List.length_take]; omega) (by decide))
          have hf := blk_frozen C7.out 1
          go_wp2
          go_roundw
          case rel => exact ⟨2, by omega, by go_num, ⟨(blk_put C7.out 1 _ rfl).trans (congrArg some (by rw [out_step S 1 S.a 1 65536 rfl rfl (by decide)]))⟩, ⟨blk_far C3.out (p := ⟨g7, 1, none⟩) N37.out _⟩, ⟨blk_far C2.out (p := ⟨g7, 1, none⟩) N27.out _⟩, ⟨below_set' E1.out G7.out⟩⟩
          case measure => simp [intOf]
        · have hx : wr.cell? ⟨g3, 0, none⟩ = some (.int .u32 (enc S.a)) := (blk_cell C3.out 0).trans rfl
          have hz : wr.cell? ⟨g7, 2, none⟩ = some (.int .u8 0) := (blk_cell C7.out 2).trans (brw_new 32 _ 2 (by rw [List.length_take]; omega) (by decide))
          have hf := blk_frozen C7.out 2
          go_wp2
          go_roundw
          case rel => exact ⟨3, by omega, by go_num, ⟨(blk_put C7.out 2 _ rfl).trans (congrArg some (by rw [out_step S 2 S.a 2 256 rfl rfl (by decide)]))⟩, ⟨blk_far C3.out (p := ⟨g7, 2, none⟩) N37.out _⟩, ⟨blk_far C2.out (p := ⟨g7, 2, none⟩) N27.out _⟩, ⟨below_set' E1.out G7.out⟩⟩
          case measure => simp [intOf]
        · have hx : wr.cell? ⟨g3, 0, none⟩ = some (.int .u32 (enc S.a)) := (blk_cell C3.out 0).trans rfl
          have hz : wr.cell? ⟨g7, 3, none⟩ = some (.int .u8 0) := (blk_cell C7.out 3).trans (brw_new 32 _ 3 (by rw [List.length_take]; omega) (by decide))
          have hf := blk_frozen C7.out 3
          go_wp2
          go_roundw
          case rel => exact ⟨4, by omega, by go_num, ⟨(blk_put C7.out 3 _ rfl).trans (congrArg some (by rw [out_step3 S 3 S.a rfl (by decide)]))⟩, ⟨blk_far C3.out (p := ⟨g7, 3, none⟩) N37.out _⟩, ⟨blk_far C2.out (p := ⟨g7, 3, none⟩) N27.out _⟩, ⟨below_set' E1.out G7.out⟩⟩
          case measure => simp [intOf]
        · have hx : wr.cell? ⟨g3, 1, none⟩ = some (.int .u32 (enc S.b)) := (blk_cell C3.out 1).trans rfl
          have hz : wr.cell? ⟨g7, 4, none⟩ = some (.int .u8 0) := (blk_cell C7.out 4).trans (brw_new 32 _ 4 (by rw [List.length_take]; omega) (by decide))
          have hf := blk_frozen C7.out 4
          go_wp2
          go_roundw
          case rel => exact ⟨5, by omega, by go_num, ⟨(blk_put C7.out 4 _ rfl).trans (congrArg some (by rw [out_step S 4 S.b 0 16777216 rfl rfl (by decide)]))⟩, ⟨blk_far C3.out (p := ⟨g7, 4, none⟩) N37.out _⟩, ⟨blk_far C2.out (p := ⟨g7, 4, none⟩) N27.out _⟩, ⟨below_set' E1.out G7.out⟩⟩
          case measure => simp [intOf]
        · have hx : wr.cell? ⟨g3, 1, none⟩ = some (.int .u32 (enc S.b)) := (blk_cell C3.out 1).trans rfl
          have hz : wr.cell? ⟨g7, 5, none⟩ = some (.int .u8 0) := (blk_cell C7.out 5).trans (brw_new 32 _ 5 (by rw [List.length_take]; omega) (by decide))
          have hf := blk_frozen C7.out 5
          go_wp2
          go_roundw
          case rel => exact ⟨6, by omega, by go_num, ⟨(blk_put C7.out 5 _ rfl).trans (congrArg some (by rw [out_step S 5 S.b 1 65536 rfl rfl (by decide)]))⟩, ⟨blk_far C3.out (p := ⟨g7, 5, none⟩) N37.out _⟩, ⟨blk_far C2.out (p := ⟨g7, 5, none⟩) N27.out _⟩, ⟨below_set' E1.out G7.out⟩⟩
          case measure => simp [intOf]
        · have hx : wr.cell? ⟨g3, 1, none⟩ = some (.int .u32 (enc S.b)) := (blk_cell C3.out 1).trans rfl
          have hz : wr.cell? ⟨g7, 6, none⟩ = some (.int .u8 0) := (blk_cell C7.out 6).trans (brw_new 32 _ 6 (by rw [List.length_take]; omega) (by decide))
          have hf := blk_frozen C7.out 6
          go_wp2
          go_roundw
          case rel => exact ⟨7, by omega, by go_num, ⟨(blk_put C7.out 6 _ rfl).trans (congrArg some (by rw [out_step S 6 S.b 2 256 rfl rfl (by decide)]))⟩, ⟨blk_far C3.out (p := ⟨g7, 6, none⟩) N37.out _⟩, ⟨blk_far C2.out (p := ⟨g7, 6, none⟩) N27.out _⟩, ⟨below_set' E1.out G7.out⟩⟩
          case measure => simp [intOf]
        · have hx : wr.cell? ⟨g3, 1, none⟩ = some (.int .u32 (enc S.b)) := (blk_cell C3.out 1).trans rfl
          have hz : wr.cell? ⟨g7, 7, none⟩ = some (.int .u8 0) := (blk_cell C7.out 7).trans (brw_new 32 _ 7 (by rw [List.length_take]; omega) (by decide))
          have hf := blk_frozen C7.out 7
          go_wp2
          go_roundw
          case rel => exact ⟨8, by omega, by go_num, ⟨(blk_put C7.out 7 _ rfl).trans (congrArg some (by rw [out_step3 S 7 S.b rfl (by decide)]))⟩, ⟨blk_far C3.out (p := ⟨g7, 7, none⟩) N37.out _⟩, ⟨blk_far C2.out (p := ⟨g7, 7, none⟩) N27.out _⟩, ⟨below_set' E1.out G7.out⟩⟩
          case measure => simp [intOf]
        · have hx : wr.cell? ⟨g3, 2, none⟩ = some (.int .u32 (enc S.c)) := (blk_cell C3.out 2).trans rfl
          have hz : wr.cell? ⟨g7, 8, none⟩ = some (.int .u8 0) := (blk_cell C7.out 8).trans (brw_new 32 _ 8 (by rw [List.length_take]; omega) (by decide))
          have hf := blk_frozen C7.out 8
          go_wp2
          go_roundw
          case rel => exact ⟨9, by omega, by go_num, ⟨(blk_put C7.out 8 _ rfl).trans (congrArg some (by rw [out_step S 8 S.c 0 16777216 rfl rfl (by decide)]))⟩, ⟨blk_far C3.out (p := ⟨g7, 8, none⟩) N37.out _⟩, ⟨blk_far C2.out (p := ⟨g7, 8, none⟩) N27.out _⟩, ⟨below_set' E1.out G7.out⟩⟩
          case measure => simp [intOf]
        · have hx : wr.cell? ⟨g3, 2, none⟩ = some (.int .u32 (enc S.c)) := (blk_cell C3.out 2).trans rfl
          have hz : wr.cell? ⟨g7, 9, none⟩ = some (.int .u8 0) := (blk_cell C7.out 9).trans (brw_new 32 _ 9 (by rw [List.length_take]; omega) (by decide))
          have hf := blk_frozen C7.out 9
          go_wp2
          go_roundw
          case rel => exact ⟨10, by omega, by go_num, ⟨(blk_put C7.out 9 _ rfl).trans (congrArg some (by rw [out_step S 9 S.c 1 65536 rfl rfl (by decide)]))⟩, ⟨blk_far C3.out (p := ⟨g7, 9, none⟩) N37.out _⟩, ⟨blk_far C2.out (p := ⟨g7, 9, none⟩) N27.out _⟩, ⟨below_set' E1.out G7.out⟩⟩
          case measure => simp [intOf]
        · have hx : wr.cell? ⟨g3, 2, none⟩ = some (.int .u32 (enc S.c)) := (blk_cell C3.out 2).trans rfl
          have hz : wr.cell? ⟨g7, 10, none⟩ = some (.int .u8 0) := (blk_cell C7.out 10).trans (brw_new 32 _ 10 (by rw [List.length_take]; omega) (by decide))
          have hf := blk_frozen C7.out 10
          go_wp2
          go_roundw
          case rel => exact ⟨11, by omega, by go_num, ⟨(blk_put C7.out 10 _ rfl).trans (congrArg some (by rw [out_step S 10 S.c 2 256 rfl rfl (by decide)]))⟩, ⟨blk_far C3.out (p := ⟨g7, 10, none⟩) N37.out _⟩, ⟨blk_far C2.out (p := ⟨g7, 10, none⟩) N27.out _⟩, ⟨below_set' E1.out G7.out⟩⟩
          case measure => simp [intOf]
        · have hx : wr.cell? ⟨g3, 2, none⟩ = some (.int .u32 (enc S.c)) := (blk_cell C3.out 2).trans rfl
          have hz : wr.cell? ⟨g7, 11, none⟩ = some (.int .u8 0) := (blk_cell C7.out 11).trans (brw_new 32 _ 11 (by rw [List.length_take]; omega) (by decide))
          have hf := blk_frozen C7.out 11
          go_wp2
          go_roundw
          case rel => exact ⟨12, by omega, by go_num, ⟨(blk_put C7.out 11 _ rfl).trans (congrArg some (by rw [out_step3 S 11 S.c rfl (by decide)]))⟩, ⟨blk_far C3.out (p := ⟨g7, 11, none⟩) N37.out _⟩, ⟨blk_far C2.out (p := ⟨g7, 11, none⟩) N27.out _⟩, ⟨below_set' E1.out G7.out⟩⟩
          case measure => simp [intOf]
        · have hx : wr.cell? ⟨g3, 3, none⟩ = some (.int .u32 (enc S.d)) := (blk_cell C3.out 3).trans rfl
          have hz : wr.cell? ⟨g7, 12, none⟩ = some (.int .u8 0) := (blk_cell C7.out 12).trans (brw_new 32 _ 12 (by rw [List.length_take]; omega) (by decide))
          have hf := blk_frozen C7.out 12
          go_wp2
          go_roundw
          case rel => exact ⟨13, by omega, by go_num, ⟨(blk_put C7.out 12 _ rfl).trans (congrArg some (by rw [out_step S 12 S.d 0 16777216 rfl rfl (by decide)]))⟩, ⟨blk_far C3.out (p := ⟨g7, 12, none⟩) N37.out _⟩, ⟨blk_far C2.out (p := ⟨g7, 12, none⟩) N27.out _⟩, ⟨below_set' E1.out G7.out⟩⟩
          case measure => simp [intOf]
        · have hx : wr.cell? ⟨g3, 3, none⟩ = some (.int .u32 (enc S.d)) := (blk_cell C3.out 3).trans rfl
          have hz : wr.cell? ⟨g7, 13, none⟩ = some (.int .u8 0) := (blk_cell C7.out 13).trans (brw_new 32 _ 13 (by rw [List.length_take]; omega) (by decide))
          have hf := blk_frozen C7.out 13
          go_wp2
          go_roundw
          case rel => exact ⟨14, by omega, by go_num, ⟨(blk_put C7.out 13 _ rfl).trans (congrArg some (by rw [out_step S 13 S.d 1 65536 rfl rfl (by decide)]))⟩, ⟨blk_far C3.out (p := ⟨g7, 13, none⟩) N37.out _⟩, ⟨blk_far C2.out (p := ⟨g7, 13, none⟩) N27.out _⟩, ⟨below_set' E1.out G7.out⟩⟩
          case measure => simp [intOf]
        · have hx : wr.cell? ⟨g3, 3, none⟩ = some (.int .u32 (enc S.d)) := (blk_cell C3.out 3).trans rfl
          have hz : wr.cell? ⟨g7, 14, none⟩ = some (.int .u8 0) := (blk_cell C7.out 14).trans (brw_new 32 _ 14 (by rw [List.length_take]; omega) (by decide))
          have hf := blk_frozen C7.out 14
          go_wp2
          go_roundw
          case rel => exact ⟨15, by omega, by go_num, ⟨(blk_put C7.out 14 _ rfl).trans (congrArg some (by rw [out_step S 14 S.d 2 256 rfl rfl (by decide)]))⟩, ⟨blk_far C3.out (p := ⟨g7, 14, none⟩) N37.out _⟩, ⟨blk_far C2.out (p := ⟨g7, 14, none⟩) N27.out _⟩, ⟨below_set' E1.out G7.out⟩⟩
          case measure => simp [intOf]
        · have hx : wr.cell? ⟨g3, 3, none⟩ = some (.int .u32 (enc S.d)) := (blk_cell C3.out 3).trans rfl
          have hz : wr.cell? ⟨g7, 15, none⟩ = some (.int .u8 0) := (blk_cell C7.out 15).trans (brw_new 32 _ 15 (by rw [List.length_take]; omega) (by decide))
          have hf := blk_frozen C7.out 15
          go_wp2
          go_roundw
          case rel => exact ⟨16, by omega, by go_num, ⟨(blk_put C7.out 15 _ rfl).trans (congrArg some (by rw [out_step3 S 15 S.d rfl (by decide)]))⟩, ⟨blk_far C3.out (p := ⟨g7, 15, none⟩) N37.out _⟩, ⟨blk_far C2.out (p := ⟨g7, 15, none⟩) N27.out _⟩, ⟨below_set' E1.out G7.out⟩⟩
          case measure => simp [intOf]
        · have hx : wr.cell? ⟨g3, 4, none⟩ = some (.int .u32 (enc S.e)) := (blk_cell C3.out 4).trans rfl
          have hz : wr.cell? ⟨g7, 16, none⟩ = some (.int .u8 0) := (blk_cell C7.out 16).trans (brw_new 32 _ 16 (by rw [List.length_take]; omega) (by decide))
          have hf := blk_frozen C7.out 16
          go_wp2
          go_roundw
          case rel => exact ⟨17, by omega, by go_num, ⟨(blk_put C7.out 16 _ rfl).trans (congrArg some (by rw [out_step S 16 S.e 0 16777216 rfl rfl (by decide)]))⟩, ⟨blk_far C3.out (p := ⟨g7, 16, none⟩) N37.out _⟩, ⟨blk_far C2.out (p := ⟨g7, 16, none⟩) N27.out _⟩, ⟨below_set' E1.out G7.out⟩⟩
          case measure => simp [intOf]
        · have hx : wr.cell? ⟨g3, 4, none⟩ = some (.int .u32 (enc S.e)) := (blk_cell C3.out 4).trans rfl
          have hz : wr.cell? ⟨g7, 17, none⟩ = some (.int .u8 0) := (blk_cell C7.out 17).trans (brw_new 32 _ 17 (by rw [List.length_take]; omega) (by decide))
          have hf := blk_frozen C7.out 17
          go_wp2
          go_roundw
          case rel => exact ⟨18, by omega, by go_num, ⟨(blk_put C7.out 17 _ rfl).trans (congrArg some (by rw [out_step S 17 S.e 1 65536 rfl rfl (by decide)]))⟩, ⟨blk_far C3.out (p := ⟨g7, 17, none⟩) N37.out _⟩, ⟨blk_far C2.out (p := ⟨g7, 17, none⟩) N27.out _⟩, ⟨below_set' E1.out G7.out⟩⟩
          case measure => simp [intOf]
        · have hx : wr.cell? ⟨g3, 4, none⟩ = some (.int .u32 (enc S.e)) := (blk_cell C3.out 4).trans rfl
          have hz : wr.cell? ⟨g7, 18, none⟩ = some (.int .u8 0) := (blk_cell C7.out 18).trans (brw_new 32 _ 18 (by rw [List.length_take]; omega) (by decide))
          have hf := blk_frozen C7.out 18
          go_wp2
          go_roundw
          case rel => exact ⟨19, by omega, by go_num, ⟨(blk_put C7.out 18 _ rfl).trans (congrArg some (by rw [out_step S 18 S.e 2 256 rfl rfl (by decide)]))⟩, ⟨blk_far C3.out (p := ⟨g7, 18, none⟩) N37.out _⟩, ⟨blk_far C2.out (p := ⟨g7, 18, none⟩) N27.out _⟩, ⟨below_set' E1.out G7.out⟩⟩
          case measure => simp [intOf]
        · have hx : wr.cell? ⟨g3, 4, none⟩ = some (.int .u32 (enc S.e)) := (blk_cell C3.out 4).trans rfl
          have hz : wr.cell? ⟨g7, 19, none⟩ = some (.int .u8 0) := (blk_cell C7.out 19).trans (brw_new 32 _ 19 (by rw [List.length_take]; omega) (by decide))
          have hf := blk_frozen C7.out 19
          go_wp2
          go_roundw
          case rel => exact ⟨20, by omega, by go_num, ⟨(blk_put C7.out 19 _ rfl).trans (congrArg some (by rw [out_step3 S 19 S.e rfl (by decide)]))⟩, ⟨blk_far C3.out (p := ⟨g7, 19, none⟩) N37.out _⟩, ⟨blk_far C2.out (p := ⟨g7, 19, none⟩) N27.out _⟩, ⟨below_set' E1.out G7.out⟩⟩
          case measure => simp [intOf]
        · have hx : wr.cell? ⟨g3, 5, none⟩ = some (.int .u32 (enc S.f)) := (blk_cell C3.out 5).trans rfl
          have hz : wr.cell? ⟨g7, 20, none⟩ = some (.int .u8 0) := (blk_cell C7.out 20).trans (brw_new 32 _ 20 (by rw [List.length_take]; omega) (by decide))
          have hf := blk_frozen C7.out 20
          go_wp2
          go_roundw
          case rel => exact ⟨21, by omega, by go_num, ⟨(blk_put C7.out 20 _ rfl).trans (congrArg some (by rw [out_step S 20 S.f 0 16777216 rfl rfl (by decide)]))⟩, ⟨blk_far C3.out (p := ⟨g7, 20, none⟩) N37.out _⟩, ⟨blk_far C2.out (p := ⟨g7, 20, none⟩) N27.out _⟩, ⟨below_set' E1.out G7.out⟩⟩
          case measure => simp [intOf]
        · have hx : wr.cell? ⟨g3, 5, none⟩ = some (.int .u32 (enc S.f)) := (blk_cell C3.out 5).trans rfl
          have hz : wr.cell? ⟨g7, 21, none⟩ = some (.int .u8 0) := (blk_cell C7.out 21).trans (brw_new 32 _ 21 (by rw [List.length_take]; omega) (by decide))
          have hf := blk_frozen C7.out 21
          go_wp2
          go_roundw
          case rel => exact ⟨22, by omega, by go_num, ⟨(blk_put C7.out 21 _ rfl).trans (congrArg some (by rw [out_step S 21 S.f 1 65536 rfl rfl (by decide)]))⟩, ⟨blk_far C3.out (p := ⟨g7, 21, none⟩) N37.out _⟩, ⟨blk_far C2.out (p := ⟨g7, 21, none⟩) N27.out _⟩, ⟨below_set' E1.out G7.out⟩⟩
          case measure => simp [intOf]
        · have hx : wr.cell? ⟨g3, 5, none⟩ = some (.int .u32 (enc S.f)) := (blk_cell C3.out 5).trans rfl
          have hz : wr.cell? ⟨g7, 22, none⟩ = some (.int .u8 0) := (blk_cell C7.out 22).trans (brw_new 32 _ 22 (by rw [List.length_take]; omega) (by decide))
          have hf := blk_frozen C7.out 22
          go_wp2
          go_roundw
          case rel => exact ⟨23, by omega, by go_num, ⟨(blk_put C7.out 22 _ rfl).trans (congrArg some (by rw [out_step S 22 S.f 2 256 rfl rfl (by decide)]))⟩, ⟨blk_far C3.out (p := ⟨g7, 22, none⟩) N37.out _⟩, ⟨blk_far C2.out (p := ⟨g7, 22, none⟩) N27.out _⟩, ⟨below_set' E1.out G7.out⟩⟩
          case measure => simp [intOf]
        · have hx : wr.cell? ⟨g3, 5, none⟩ = some (.int .u32 (enc S.f)) := (blk_cell C3.out 5).trans rfl
          have hz : wr.cell? ⟨g7, 23, none⟩ = some (.int .u8 0) := (blk_cell C7.out 23).trans (brw_new 32 _ 23 (by rw [List.length_take]; omega) (by decide))
          have hf := blk_frozen C7.out 23
          go_wp2
          go_roundw
          case rel => exact ⟨24, by omega, by go_num, ⟨(blk_put C7.out 23 _ rfl).trans (congrArg some (by rw [out_step3 S 23 S.f rfl (by decide)]))⟩, ⟨blk_far C3.out (p := ⟨g7, 23, none⟩) N37.out _⟩, ⟨blk_far C2.out (p := ⟨g7, 23, none⟩) N27.out _⟩, ⟨below_set' E1.out G7.out⟩⟩
          case measure => simp [intOf]
        · have hx : wr.cell? ⟨g3, 6, none⟩ = some (.int .u32 (enc S.g)) := (blk_cell C3.out 6).trans rfl
          have hz : wr.cell? ⟨g7, 24, none⟩ = some (.int .u8 0) := (blk_cell C7.out 24).trans (brw_new 32 _ 24 (by rw [List.length_take]; omega) (by decide))
          have hf := blk_frozen C7.out 24
          go_wp2
          go_roundw
          case rel => exact ⟨25, by omega, by go_num, ⟨(blk_put C7.out 24 _ rfl).trans (congrArg some (by rw [out_step S 24 S.g 0 16777216 rfl rfl (by decide)]))⟩, ⟨blk_far C3.out (p := ⟨g7, 24, none⟩) N37.out _⟩, ⟨blk_far C2.out (p := ⟨g7, 24, none⟩) N27.out _⟩, ⟨below_set' E1.out G7.out⟩⟩
          case measure => simp [intOf]
        · have hx : wr.cell? ⟨g3, 6, none⟩ = some (.int .u32 (enc S.g)) := (blk_cell C3.out 6).trans rfl
          have hz : wr.cell? ⟨g7, 25, none⟩ = some (.int .u8 0) := (blk_cell C7.out 25).trans (brw_new 32 _ 25 (by rw [List.length_take]; omega) (by decide))
          have hf := blk_frozen C7.out 25
          go_wp2
          go_roundw
          case rel => exact ⟨26, by omega, by go_num, ⟨(blk_put C7.out 25 _ rfl).trans (congrArg some (by rw [out_step S 25 S.g 1 65536 rfl rfl (by decide)]))⟩, ⟨blk_far C3.out (p := ⟨g7, 25, none⟩) N37.out _⟩, ⟨blk_far C2.out (p := ⟨g7, 25, none⟩) N27.out _⟩, ⟨below_set' E1.out G7.out⟩⟩
          case measure => simp [intOf]
        · have hx : wr.cell? ⟨g3, 6, none⟩ = some (.int .u32 (enc S.g)) := (blk_cell C3.out 6).trans rfl
          have hz : wr.cell? ⟨g7, 26, none⟩ = some (.int .u8 0) := (blk_cell C7.out 26).trans (brw_new 32 _ 26 (by rw [List.length_take]; omega) (by decide))
          have hf := blk_frozen C7.out 26
          go_wp2
          go_roundw
          case rel => exact ⟨27, by omega, by go_num, ⟨(blk_put C7.out 26 _ rfl).trans (congrArg some (by rw [out_step S 26 S.g 2 256 rfl rfl (by decide)]))⟩, ⟨blk_far C3.out (p := ⟨g7, 26, none⟩) N37.out _⟩, ⟨blk_far C2.out (p := ⟨g7, 26, none⟩) N27.out _⟩, ⟨below_set' E1.out G7.out⟩⟩
          case measure => simp [intOf]
        · have hx : wr.cell? ⟨g3, 6, none⟩ = some (.int .u32 (enc S.g)) := (blk_cell C3.out 6).trans rfl
          have hz : wr.cell? ⟨g7, 27, none⟩ = some (.int .u8 0) := (blk_cell C7.out 27).trans (brw_new 32 _ 27 (by rw [List.length_take]; omega) (by decide))
          have hf := blk_frozen C7.out 27
          go_wp2
          go_roundw
          case rel => exact ⟨28, by omega, by go_num, ⟨(blk_put C7.out 27 _ rfl).trans (congrArg some (by rw [out_step3 S 27 S.g rfl (by decide)]))⟩, ⟨blk_far C3.out (p := ⟨g7, 27, none⟩) N37.out _⟩, ⟨blk_far C2.out (p := ⟨g7, 27, none⟩) N27.out _⟩, ⟨below_set' E1.out G7.out⟩⟩
          case measure => simp [intOf]
        · have hx : wr.cell? ⟨g3, 7, none⟩ = some (.int .u32 (enc S.h)) := (blk_cell C3.out 7).trans rfl
          have hz : wr.cell? ⟨g7, 28, none⟩ = some (.int .u8 0) := (blk_cell C7.out 28).trans (brw_new 32 _ 28 (by rw [List.length_take]; omega) (by decide))
          have hf := blk_frozen C7.out 28
          go_wp2
          go_roundw
          case rel => exact ⟨29, by omega, by go_num, ⟨(blk_put C7.out 28 _ rfl).trans (congrArg some (by rw [out_step S 28 S.h 0 16777216 rfl rfl (by decide)]))⟩, ⟨blk_far C3.out (p := ⟨g7, 28, none⟩) N37.out _⟩, ⟨blk_far C2.out (p := ⟨g7, 28, none⟩) N27.out _⟩, ⟨below_set' E1.out G7.out⟩⟩
          case measure => simp [intOf]
        · have hx : wr.cell? ⟨g3, 7, none⟩ = some (.int .u32 (enc S.h)) := (blk_cell C3.out 7).trans rfl
          have hz : wr.cell? ⟨g7, 29, none⟩ = some (.int .u8 0) := (blk_cell C7.out 29).trans (brw_new 32 _ 29 (by rw [List.length_take]; omega) (by decide))
          have hf := blk_frozen C7.out 29
          go_wp2
          go_roundw
          case rel => exact ⟨30, by omega, by go_num, ⟨(blk_put C7.out 29 _ rfl).trans (congrArg some (by rw [out_step S 29 S.h 1 65536 rfl rfl (by decide)]))⟩, ⟨blk_far C3.out (p := ⟨g7, 29, none⟩) N37.out _⟩, ⟨blk_far C2.out (p := ⟨g7, 29, none⟩) N27.out _⟩, ⟨below_set' E1.out G7.out⟩⟩
          case measure => simp [intOf]
        · have hx : wr.cell? ⟨g3, 7, none⟩ = some (.int .u32 (enc S.h)) := (blk_cell C3.out 7).trans rfl
          have hz : wr.cell? ⟨g7, 30, none⟩ = some (.int .u8 0) := (blk_cell C7.out 30).trans (brw_new 32 _ 30 (by rw [List.length_take]; omega) (by decide))
          have hf := blk_frozen C7.out 30
          go_wp2
          go_roundw
          case rel => exact ⟨31, by omega, by go_num, ⟨(blk_put C7.out 30 _ rfl).trans (congrArg some (by rw [out_step S 30 S.h 2 256 rfl rfl (by decide)]))⟩, ⟨blk_far C3.out (p := ⟨g7, 30, none⟩) N37.out _⟩, ⟨blk_far C2.out (p := ⟨g7, 30, none⟩) N27.out _⟩, ⟨below_set' E1.out G7.out⟩⟩
          case measure => simp [intOf]
        · have hx : wr.cell? ⟨g3, 7, none⟩ = some (.int .u32 (enc S.h)) := (blk_cell C3.out 7).trans rfl
          have hz : wr.cell? ⟨g7, 31, none⟩ = some (.int .u8 0) := (blk_cell C7.out 31).trans (brw_new 32 _ 31 (by rw [List.length_take]; omega) (by decide))
          have hf := blk_frozen C7.out 31
          go_wp2
          go_roundw
          case rel => exact ⟨32, by omega, by go_num, ⟨(blk_put C7.out 31 _ rfl).trans (congrArg some (by rw [out_step3 S 31 S.h rfl (by decide)]))⟩, ⟨blk_far C3.out (p := ⟨g7, 31, none⟩) N37.out _⟩, ⟨blk_far C2.out (p := ⟨g7, 31, none⟩) N27.out _⟩, ⟨below_set' E1.out G7.out⟩⟩
          case measure => simp [intOf]
        · have hb : brw 32 ((out8 S).take 32) = ((out8 S).map fun c => Value.int .u8 c.toNat).toArray := by rw [List.take_of_length_le (by omega)]; exact brw_full 32 _ hO
          have hs : (brw 32 ((out8 S).take 32)).size = 32 := brw_size 32 _ (by rw [List.length_take]; omega)
          go_wp2_with (first
            | ((with_reducible refine gate_dst (N := 44) rfl ?_); refine wpList_load_row rfl 23 (.tmp 7) rfl g7 rfl 23 (brw 32 ((out8 S).take 32)) (0, 0) _ C7.out Try.underlying23 rfl (by rw [hs]; exact i24) ?_)
            | ((with_reducible refine gate_store rfl ?_); refine wpList_store_row rfl 23 (.tmp 2) (.tmp 44) rfl g2 (brw 32 ((out8 S).take 32)) rfl rfl 23 _ C2.out (by rw [hs]; exact i24) (by rw [hs, hzz]) (brw_one _ _) ?_))
          refine bodyPost_ret (results_cell_row (fn := Try.f25) rfl _ _ g2 23 (brw 32 ((out8 S).take 32)) (0, 0) _ rfl (setRow_heap _ g2 _ _ 23 _ C2.out) Try.underlying23 rfl (by rw [hs]; exact i24)) rfl ?_
          refine ⟨?_, below_setRow E1.out G2.out _⟩
          rw [hb, HS.out]
          rfl
end Go.Proofs.Ythpnppfpmhlkaaa.Sha
