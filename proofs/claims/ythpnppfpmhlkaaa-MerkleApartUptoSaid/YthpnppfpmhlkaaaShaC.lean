/- Chapter 2: hash.blocks, walked by hand. -/
import Derived.Test.YthpnppfpmhlkaaaShaB
namespace Go.Proofs.Ythpnppfpmhlkaaa.Sha
open Go.RowKit Go.Proofs.Ythpnppfpmhlkaaa.X Go.Proofs.YthpnppfpmhlkaaaW.PrintWords Go.Proofs.YthpnppfpmhlkaaaW.PrintLast Go.Proofs.YthpnppfpmhlkaaaW.PrintMore
set_option linter.unusedVariables false
set_option linter.unusedSimpArgs false

/-- A list of bytes as a text. -/
def tx (l : List UInt8) : ByteArray := ⟨l.toArray⟩
theorem tx_toList (s : ByteArray) : tx s.data.toList = s := rfl
theorem tx_data (l : List UInt8) : (tx l).data.toList = l := rfl
theorem tx_size (l : List UInt8) : (tx l).size = l.length := by
  unfold tx; show l.toArray.size = _; simp
theorem tx_ext (l : List UInt8) (a b : Nat) : (tx l).extract a b = tx ((l.drop a).take (b - a)) := by
  have h : ((tx l).extract a b).data.toList = (l.drop a).take (b - a) := by
    rw [ByteArray.data_extract]
    show (l.toArray.extract a b).toList = _
    rw [Array.toList_extract]
  rw [← h, tx_toList]
theorem tx_from (l : List UInt8) (a : Nat) : (tx l).extract a (tx l).size = tx (l.drop a) := by
  rw [tx_ext, tx_size, List.take_of_length_le (by rw [List.length_drop]; omega)]
theorem tx_upto (l : List UInt8) (b : Nat) : (tx l).extract 0 b = tx (l.take b) := by
  rw [tx_ext, List.drop_zero, Nat.sub_zero]
/-- The numbers behind all whole blocks, and the rest. -/
def blk8 (s : S8) (l : List UInt8) : S8 × List UInt8 := if 64 ≤ l.length then blk8 (turn K0 s (l.take 64)) (l.drop 64) else (s, l)
termination_by l.length
decreasing_by rw [List.length_drop]; omega
theorem blk8_long (s : S8) (l : List UInt8) (h : 64 ≤ l.length) : blk8 s l = blk8 (turn K0 s (l.take 64)) (l.drop 64) := by rw [blk8, if_pos h]
theorem blk8_short (s : S8) (l : List UInt8) (h : ¬ 64 ≤ l.length) : blk8 s l = (s, l) := by rw [blk8, if_neg h]
theorem results_two (tmps : Array Value) (w : World) (g : Nat) (cs : Array Value) (t : ByteArray) (hp : tmps.getD 4 undef = .pointer (some ⟨g, 0, none⟩)) (ht : tmps.getD 5 undef = .string t) (hg : w.heap[g]? = some (.cells cs 50 (0, 0)))
    (hi : (Try.prog.info? 50).map (·.size) = some cs.size) : (results Try.f36 tmps).run Try.prog w = .ok (.tuple #[.agg cs, .string t]) w := by
  have h : Try.f36.results = #[.cell 4 50, .tmp 5] := rfl
  have hp' : tmps[4]?.getD undef = .pointer (some ⟨g, 0, none⟩) := by simpa using hp
  have ht' : tmps[5]?.getD undef = .string t := by simpa using ht
  simp [results, h, hp', ht', asAddr, run_loadVar_row w g 50 50 cs (0, 0) _ hg Try.underlying50 rfl hi]
theorem K0_len : K0.length = 64 := by decide
def szOf : Value → Nat
  | .string s => s.size
  | _ => 0
def blo.T3 : Bool × List (List Nat × List Nat) := (true, [([], []), ([], []), ([1], [1]), ([0, 2], [0, 2]), ([3, 3, 0, 1, 2, 3], [3])])
def blo.B3 : List Nat := [0, 0, 2, 7, 15]
theorem blo.tab3 : rtab .any (opsOf Try.f36 3) = blo.T3 := by kernel_rfl
theorem blo.bits3 : waitsOk blo.T3.2 blo.B3 = true := by kernel_rfl
set_option maxHeartbeats 8000000 in
set_option maxRecDepth 100000 in
theorem blocks_calls (h : S8) (b : List UInt8) (w : World) : Calls Try.prog 36 #[.agg (vals (lst h)), .string (tx b)] w fun e w' => e = .returned (.tuple #[.agg (vals (lst (blk8 h b).1)), .string (tx (blk8 h b).2)]) ∧ Below w.heap.size w w' := by
  have i46 : (Try.prog.info? 50).map (·.size) = some 8 := by kernel_rfl
  have i47 : (Try.prog.info? 51).map (·.size) = some 64 := by kernel_rfl
  have hv8 : (vals (lst h)).size = 8 := rfl
  go_enter Try.func36, Try.ntmps36
  go_upto_region 1 with (fail)
  change Code.wp _ _ _ _ ((w.alloc (.cells (vals (lst h)) 50)).alloc (.cells (row 8 []) 50))
  have C2 : Aside0 (((w.alloc (.cells (vals (lst h)) 50)).alloc (.cells (row 8 []) 50)).heap[w.heap.size]? = some (.cells (vals (lst h)) 50 (0, 0))) := ⟨blk_below (blk_new w (.cells (vals (lst h)) 50)) (below_alloc (Below.refl _ _) _)⟩
  have C4 : Aside0 (((w.alloc (.cells (vals (lst h)) 50)).alloc (.cells (row 8 []) 50)).heap[w.heap.size + 1]? = some (.cells (row 8 []) 50 (0, 0))) := ⟨alloc_second _ _ _⟩
  have D0 := Aside0.mk (below_alloc (below_alloc (Below.refl w.heap.size w) (.cells (vals (lst h)) 50)) (.cells (row 8 []) 50))
  generalize (w.alloc (.cells (vals (lst h)) 50)).alloc (.cells (row 8 []) 50) = w1 at C2 C4 D0 ⊢
  obtain ⟨g2, hg2⟩ : ∃ g, g = w.heap.size := ⟨_, rfl⟩
  obtain ⟨g4, hg4⟩ : ∃ g, g = w.heap.size + 1 := ⟨_, rfl⟩
  have P2 : (Value.pointer (some ⟨w.heap.size, 0, none⟩)) = .pointer (some ⟨g2, 0, none⟩) := by rw [hg2]
  have P4 : (Value.pointer (some ⟨w.heap.size + 1, 0, none⟩)) = .pointer (some ⟨g4, 0, none⟩) := by rw [hg4]
  rw [P2, P4]
  rw [← hg2] at C2
  rw [← hg4] at C4
  have G2 : Aside0 (w.heap.size ≤ g2) := ⟨by omega⟩
  have G4 : Aside0 (w.heap.size ≤ g4) := ⟨by omega⟩
  have N24 : Aside0 (g2 ≠ g4) := ⟨by omega⟩
  clear P2 P4 hg2 hg4
  have hv64 : (vals K0).size = 64 := rfl
  go_wp2_with (first
    | (go_at_call 40; (with_reducible refine (constants_calls _).mono ?_); rintro e w2 ⟨rfl, hd⟩; have n_C2 := Aside0.mk (blk_below C2.out hd); have n_C4 := Aside0.mk (blk_below C4.out hd); have n_D0 := Aside0.mk (below_step D0.out hd); clear C2 C4 D0 hd; have C2 := n_C2; have C4 := n_C4; have D0 := n_D0; clear n_C2 n_C4 n_D0)
    | ((with_reducible refine gate_store rfl ?_); refine wpList_store_row rfl 51 (.tmp 6) (.tmp 7) rfl w2.heap.size (vals K0) rfl rfl 51 _ (blk_new _ _) (by rw [hv64]; exact i47) rfl (vals_one _) ?_))
  change Code.wp _ _ _ _ ((w2.alloc (.cells (row 64 []) 51)).setRow w2.heap.size (vals K0))
  have hq := below_setRow (below_alloc (Below.refl w2.heap.size w2) (.cells (row 64 []) 51)) (Nat.le_refl _) (vals K0)
  have C6 := Aside0.mk (setRow_heap _ w2.heap.size _ (vals K0) _ _ (blk_new w2 (.cells (row 64 []) 51)))
  have n_C2 := Aside0.mk (blk_below C2.out hq)
  have n_C4 := Aside0.mk (blk_below C4.out hq)
  have n_D0 := Aside0.mk (below_setRow (below_alloc D0.out (.cells (row 64 []) 51)) D0.out.size (vals K0))
  have N26 : Aside0 (g2 ≠ w2.heap.size) := ⟨by have := blk_lt C2.out; omega⟩
  have N46 : Aside0 (g4 ≠ w2.heap.size) := ⟨by have := blk_lt C4.out; omega⟩
  clear C2 C4 D0 hq
  have C2 := n_C2
  have C4 := n_C4
  have D0 := n_D0
  clear n_C2 n_C4 n_D0
  obtain ⟨g6, hg6⟩ : ∃ g, g = w2.heap.size := ⟨_, rfl⟩
  have P6 : (Value.pointer (some ⟨w2.heap.size, 0, none⟩)) = .pointer (some ⟨g6, 0, none⟩) := by rw [hg6]
  rw [P6]
  generalize (w2.alloc (.cells (row 64 []) 51)).setRow w2.heap.size (vals K0) = w3 at C2 C4 C6 D0 ⊢
  rw [← hg6] at C6 N26 N46
  clear P6 hg6
  simp only [Act.put]
  go_loopw [1] (fun v W => ∃ (s : S8) (l : List UInt8), v = .string (tx l) ∧ Aside0 (blk8 s l = blk8 h b) ∧ Aside0 (W.heap[g2]? = some (.cells (vals (lst s)) 50 (0, 0))) ∧ Aside0 (W.heap[g4]? = some (.cells (row 8 []) 50 (0, 0))) ∧ Aside0 (W.heap[g6]? = some (.cells (vals K0) 51 (0, 0))) ∧ Aside0 (Below w.heap.size w W)) (fun v _ => szOf v)
  case atStart => exact ⟨h, b, rfl, ⟨rfl⟩, C2, C4, C6, D0⟩
  case round =>
    clear C2 C4 C6 D0
    obtain ⟨s, l, rfl, HE, C2, C4, C6, D0⟩ := hrel
    have hsz := tx_size l
    by_cases hlt : 64 ≤ l.length
    · have q64 : ((64 : Int) ≤ ((tx l).size : Int)) = True := eq_true (by omega)
      have q64' : (((tx l).size : Int) ≥ (64 : Int)) = True := eq_true (by omega)
      have q64n : (64 ≤ (tx l).size) = True := eq_true (by omega)
      have hx64 : 64 ≤ ((tx l).extract 0 64).size := by rw [tx_upto, tx_size, List.length_take]; omega
      clear hsz
      obtain ⟨s1, hs1⟩ : ∃ s1, s1 = turn K0 s ((tx l).extract 0 64).data.toList := ⟨_, rfl⟩
      have HCALL : ∀ W : World, W.heap[g6]? = some (.cells (vals K0) 51 (0, 0)) → Calls Try.prog 41 #[.agg (vals (lst s)), .string ((tx l).extract 0 64), .pointer (some ⟨g6, 0, none⟩)] W fun e w' => e = .returned (.agg (vals (lst s1))) ∧ Below W.heap.size W w' := fun W hk => by rw [hs1]; exact turned_calls s _ g6 K0 W hx64 K0_len hk
      have HS1 := Aside0.mk hs1
      clear hs1
      go_upto_region 3 with (fail)
      refine start_ (n := 5) (S := fun W => W.heap[g2]? = some (.cells (vals (lst s)) 50 (0, 0))) (ds := [4]) #[false, false, false, false, false] (by kernel_rfl) rfl rfl (blk_drew C2.out) (fun hHeld => ?_); refine with_tabW blo.tab3 blo.bits3 (fun HT_ HW_ => ?_)
      have n_C2 := Aside0.mk (blk_drew C2.out)
      have n_C4 := Aside0.mk (blk_drew C4.out)
      have n_C6 := Aside0.mk (blk_drew C6.out)
      have n_D0 := Aside0.mk (below_drew1 D0.out)
      clear C2 C4 C6 D0
      have C2 := n_C2
      have C4 := n_C4
      have C6 := n_C6
      have D0 := n_D0
      clear n_C2 n_C4 n_C6 n_D0
      generalize World.drew _ = wR at C2 C4 C6 D0 hHeld ⊢
      refine pure_ (i := 1) (N := some 12) (v := ?_) (a' := ?_) #[false, true, false, false, false] rfl rfl (any_of HT_.out (by kernel_rfl)) (fun _ _ _ h => h) (Or.inl ⟨by rfl, ?_⟩) ?_ ?_
      rotate_left
      · intro w'
        go_simp
        with_reducible rfl
      rotate_left
      · simp only [Act.put, List.setIfInBounds_toArray, List.set_cons_zero, List.set_cons_succ, i64_w, i32_w]
        rfl
      refine pure_ (i := 2) (N := some 13) (v := ?_) (a' := ?_) #[false, true, true, false, false] rfl rfl (any_of HT_.out (by kernel_rfl)) (fun _ _ _ h => h) (Or.inl ⟨by rfl, ?_⟩) ?_ ?_
      rotate_left
      · intro w'
        go_simp
        with_reducible rfl
      rotate_left
      · simp only [Act.put, List.setIfInBounds_toArray, List.set_cons_zero, List.set_cons_succ, i64_w, i32_w]
        rfl
      refine take_ (i := 0) (N := some 11) (v := ?_) (a' := ?_) #[true, true, true, false, false] rfl rfl (take_ofW HT_.out HW_.out (by kernel_rfl)) (fun _ _ _ h => h) (Or.inl ⟨by rfl, ?_⟩) hHeld ?_ ?_
      rotate_left
      · intro w' s0
        refine exec_load_row 50 (.tmp 2) ?ha g2 ?hb 50 (vals (lst s)) (0, 0) _ s0 Try.underlying50 ?hc i46 <;> rfl
      rotate_left
      · simp only [Act.put, List.setIfInBounds_toArray, List.set_cons_zero, List.set_cons_succ, i64_w, i32_w]
        rfl
      refine one_ (i := 3) (N := some 14) #[true, true, true, true, false] rfl rfl (one_of HT_.out (by kernel_rfl)) (by decide) (fun K hK => ?_)
      refine goes_ Try.func41 (by kernel_rfl) rfl #[.agg (vals (lst s)), .string ((tx l).extract 0 64), .pointer (some ⟨g6, 0, none⟩)] (by rfl) rfl rfl (by (try simp only [List.map_toArray, List.map_cons, List.map_nil]); first | done | rfl) ?_
      with_reducible refine (HCALL _ C6.out).mono ?_
      rintro e w11 ⟨rfl, hd⟩
      refine ⟨_, rfl, ?_⟩
      have n_C2 := Aside0.mk (blk_below C2.out hd)
      have n_C4 := Aside0.mk (blk_below C4.out hd)
      have n_C6 := Aside0.mk (blk_below C6.out hd)
      have n_D0 := Aside0.mk (below_step D0.out hd)
      clear C2 C4 C6 D0
      have C2 := n_C2
      have C4 := n_C4
      have C6 := n_C6
      have D0 := n_D0
      clear n_C2 n_C4 n_C6 n_D0
      clear hd
      refine hK.out _ _ C2.out (fun hHeld => ?_)
      clear hK K
      refine norm_ (a' := ?_) ?_ ?_
      rotate_left
      · show Act.put _ (some 14) _ = _
        simp only [Act.put, List.setIfInBounds_toArray, List.set_cons_zero, List.set_cons_succ, i64_w, i32_w]
        rfl
      refine last_ (i := 4) (N := none) #[true, true, true, true, true] rfl rfl (one_of HT_.out (by kernel_rfl)) (by decide) (fun K hK => ?_)
      rw [if_pos (by rfl)]
      refine wp_store_row 50 (.tmp 2) (.tmp 14) rfl g2 (vals (lst s1)) rfl rfl 50 _ C2.out (by rw [show (vals (lst s1)).size = 8 from rfl]; exact i46) rfl (vals_one _) ?_
      refine hK.out _ _ ?_
      clear hK K
      refine norm_ (a' := ?_) ?_ ?_
      rotate_left
      · show Act.put _ none _ = _
        simp only [Act.put]
        rfl
      refine done_ (done_of HT_.out (by kernel_rfl)) ?_
      go_wp2
      go_roundw
      case rel => exact ⟨s1, l.drop 64, congrArg Value.string (tx_from l 64), ⟨by rw [← HE.out, blk8_long s l hlt, HS1.out, tx_upto, tx_data]⟩, ⟨setRow_heap _ _ _ _ _ _ C2.out⟩, ⟨(setRow_other _ _ _ _ (fun e => N24.out e.symm)).trans C4.out⟩, ⟨(setRow_other _ _ _ _ (fun e => N26.out e.symm)).trans C6.out⟩, ⟨below_setRow D0.out G2.out _⟩⟩
      case measure => show ((tx l).extract 64 (tx l).size).size < (tx l).size; rw [tx_from, tx_size, tx_size, List.length_drop]; omega
    · have q64 : ((64 : Int) ≤ ((tx l).size : Int)) = False := eq_false (by omega)
      have q64' : (((tx l).size : Int) ≥ (64 : Int)) = False := eq_false (by omega)
      have q64n : (64 ≤ (tx l).size) = False := eq_false (by omega)
      have HE2 : Aside0 (blk8 h b = (s, l)) := ⟨by rw [← HE.out, blk8_short s l hlt]⟩
      clear hsz
      have hvs : (vals (lst s)).size = 8 := rfl
      go_wp2_with (first
        | ((with_reducible refine gate_dst (N := 17) rfl ?_); refine wpList_load_row rfl 50 (.tmp 2) rfl g2 rfl 50 (vals (lst s)) (0, 0) _ C2.out Try.underlying50 rfl (by rw [hvs]; exact i46) ?_)
        | ((with_reducible refine gate_store rfl ?_); refine wpList_store_row rfl 50 (.tmp 4) (.tmp 17) rfl g4 (vals (lst s)) rfl rfl 50 _ C4.out (by rw [hvs]; exact i46) rfl (vals_one _) ?_))
      refine bodyPost_ret (v := .tuple #[.agg (vals (lst s)), .string (tx l)]) (results_two _ _ g4 (vals (lst s)) (tx l) rfl rfl (setRow_heap _ g4 _ _ 50 _ C4.out) (by rw [hvs]; exact i46)) rfl ?_
      exact ⟨by rw [HE2.out], below_setRow D0.out G4.out _⟩
end Go.Proofs.Ythpnppfpmhlkaaa.Sha
