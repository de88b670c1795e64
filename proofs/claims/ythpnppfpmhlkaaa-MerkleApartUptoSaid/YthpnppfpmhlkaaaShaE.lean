/- Chapter 2: the document's block, walked by hand. -/
import Derived.Test.YthpnppfpmhlkaaaShaD
namespace Go.Proofs.Ythpnppfpmhlkaaa.Sha
open Go.RowKit Go.Proofs.Ythpnppfpmhlkaaa.X Go.Proofs.YthpnppfpmhlkaaaW.PrintWords Go.Proofs.YthpnppfpmhlkaaaW.PrintLast Go.Proofs.YthpnppfpmhlkaaaW.PrintMore
set_option linter.unusedVariables false
set_option linter.unusedSimpArgs false
attribute [local go_sem] xor_enc and_enc or_enc add_enc not_enc wrap_of_enc shl8 shl16 shl24 shr3 shr10 not_raw

theorem vals_size (ws : List (BitVec 32)) : (vals ws).size = ws.length := by unfold vals; rw [List.size_toArray, List.length_map]
theorem alloc_third (w : World) (o o' o'' : Obj) : (((w.alloc o).alloc o').alloc o'').heap[w.heap.size + 2]? = some o'' := by
  have hs : ((w.alloc o).alloc o').heap.size = w.heap.size + 2 := by
    have h1 : (w.alloc o).heap.size = w.heap.size + 1 := Array.size_push ..
    have h2 : ((w.alloc o).alloc o').heap.size = (w.alloc o).heap.size + 1 := Array.size_push ..
    omega
  rw [← hs]; exact blk_new _ _
def blk.T12 : Bool × List (List Nat × List Nat) := (true, [([], []), ([0], [0]), ([], []), ([1, 2], [1, 2]), ([], []), ([3, 4], [3, 4]), ([], []), ([6], [6]), ([7], [7]), ([5, 8], [5, 8]), ([], []), ([10], [10]), ([11], [11]), ([9, 12], [9, 12]), ([13, 0, 1, 2, 3, 4, 5, 6, 7, 8, 9, 10, 11, 12, 13], [13])])
def blk.B12 : List Nat := [0, 1, 0, 7, 0, 31, 0, 64, 192, 511, 0, 1024, 3072, 8191, 16383]
theorem blk.tab12 : rtab .any (opsOf Try.f33 12) = blk.T12 := by kernel_rfl
theorem blk.bits12 : waitsOk blk.T12.2 blk.B12 = true := by kernel_rfl
def blk.T18 : Bool × List (List Nat × List Nat) := (true, [([], []), ([], []), ([1], [1]), ([2], [2]), ([], []), ([4], [4]), ([5], [5]), ([3, 6], [3, 6]), ([0, 0, 1, 2, 3, 4, 5, 6, 7], [0]), ([8, 7, 0, 1, 2, 3, 4, 5, 6, 7], [7, 8])])
def blk.B18 : List Nat := [0, 0, 2, 6, 0, 16, 48, 126, 255, 511]
theorem blk.tab18 : rtab .any (opsOf Try.f33 18) = blk.T18 := by kernel_rfl
theorem blk.bits18 : waitsOk blk.T18.2 blk.B18 = true := by kernel_rfl
set_option maxHeartbeats 8000000 in
set_option maxRecDepth 100000 in
theorem block_calls (h : S8) (gb o cap : Nat) (l : List UInt8) (ks : List (BitVec 32)) (w : World) (hks : ks.length = 64) (hgb : gb < w.heap.size) (hc : ∀ i, i < 64 → w.cell? ⟨gb, o + i, none⟩ = some (.int .u8 (enc (byte l i)))) :
    Calls Try.prog 33 #[.agg (vals (lst h)), .slice (some ⟨gb, o, none⟩) 64 cap, .agg (vals ks)] w fun e w' => e = .returned (.agg (vals (lst (turn ks h l)))) ∧ Below w.heap.size w w' := by
  have HC := Aside0.mk hc
  have HGB := Aside0.mk hgb
  clear hc hgb
  have i46 : (Try.prog.info? 50).map (·.size) = some 8 := by kernel_rfl
  have i47 : (Try.prog.info? 51).map (·.size) = some 64 := by kernel_rfl
  go_enter Try.func33, Try.ntmps33
  go_upto_region 1 with (fail)
  change Code.wp _ _ _ _ (((w.alloc (.cells (vals (lst h)) 50)).alloc (.cells (vals ks) 51)).alloc (.cells (row 8 []) 50))
  have C3 : Aside0 ((((w.alloc (.cells (vals (lst h)) 50)).alloc (.cells (vals ks) 51)).alloc (.cells (row 8 []) 50)).heap[w.heap.size]? = some (.cells (vals (lst h)) 50 (0, 0))) := ⟨blk_below (blk_below (blk_new w (.cells (vals (lst h)) 50)) (below_alloc (Below.refl _ _) _)) (below_alloc (Below.refl _ _) _)⟩
  have C5 : Aside0 ((((w.alloc (.cells (vals (lst h)) 50)).alloc (.cells (vals ks) 51)).alloc (.cells (row 8 []) 50)).heap[w.heap.size + 1]? = some (.cells (vals ks) 51 (0, 0))) := ⟨blk_below (alloc_second w _ _) (below_alloc (Below.refl _ _) _)⟩
  have C6 : Aside0 ((((w.alloc (.cells (vals (lst h)) 50)).alloc (.cells (vals ks) 51)).alloc (.cells (row 8 []) 50)).heap[w.heap.size + 2]? = some (.cells (row 8 []) 50 (0, 0))) := ⟨alloc_third w _ _ _⟩
  have D0 := Aside0.mk (below_alloc (below_alloc (below_alloc (Below.refl w.heap.size w) (.cells (vals (lst h)) 50)) (.cells (vals ks) 51)) (.cells (row 8 []) 50))
  generalize (((w.alloc (.cells (vals (lst h)) 50)).alloc (.cells (vals ks) 51)).alloc (.cells (row 8 []) 50)) = w1 at C3 C5 C6 D0 ⊢
  obtain ⟨g3, hg3⟩ : ∃ g, g = w.heap.size := ⟨_, rfl⟩
  obtain ⟨g5, hg5⟩ : ∃ g, g = w.heap.size + 1 := ⟨_, rfl⟩
  obtain ⟨g6, hg6⟩ : ∃ g, g = w.heap.size + 2 := ⟨_, rfl⟩
  have P3 : (Value.pointer (some ⟨w.heap.size, 0, none⟩)) = .pointer (some ⟨g3, 0, none⟩) := by rw [hg3]
  have P5 : (Value.pointer (some ⟨w.heap.size + 1, 0, none⟩)) = .pointer (some ⟨g5, 0, none⟩) := by rw [hg5]
  have P6 : (Value.pointer (some ⟨w.heap.size + 2, 0, none⟩)) = .pointer (some ⟨g6, 0, none⟩) := by rw [hg6]
  try rw [P3]
  try rw [P5]
  try rw [P6]
  rw [← hg3] at C3
  rw [← hg5] at C5
  rw [← hg6] at C6
  have G3 : Aside0 (w.heap.size ≤ g3) := ⟨by omega⟩
  have G6 : Aside0 (w.heap.size ≤ g6) := ⟨by omega⟩
  clear P3 P5 P6 hg3 hg5 hg6
  have hv8 : (vals (lst h)).size = 8 := rfl
  obtain ⟨ws, hws⟩ : ∃ ws, ws = wl l 64 := ⟨_, rfl⟩
  have hwl : ws.length = 64 := by rw [hws, wl_len]
  have hvw : (vals ws).size = 64 := by rw [vals_size, hwl]
  have HWS := Aside0.mk hws
  have HW : ∀ W : World, Below w.heap.size w W → Calls Try.prog 38 #[.slice (some ⟨gb, o, none⟩) 64 cap] W fun e w' => e = .returned (.agg (vals ws)) ∧ Below W.heap.size W w' := fun W hB => by
    rw [hws]
    exact words_calls gb o cap l W (Nat.lt_of_lt_of_le HGB.out hB.size) (fun i hi => (hB.cell HGB.out).trans (HC.out i hi))
  clear hws
  go_wp2_with (first
    | ((with_reducible refine gate_dst (N := 19) rfl ?_); refine wpList_load_row rfl 50 (.tmp 3) rfl g3 rfl 50 (vals (lst h)) (0, 0) _ C3.out Try.underlying50 rfl (by rw [hv8]; exact i46) ?_)
    | ((with_reducible refine gate_store rfl ?_); refine wpList_store_row rfl 50 (.tmp 7) (.tmp 19) rfl w1.heap.size (vals (lst h)) rfl rfl 50 _ (blk_new _ _) (by rw [hv8]; exact i46) rfl (vals_one _) ?_)
    | (go_at_call 38; (with_reducible refine (HW _ (below_setRow (below_alloc D0.out _) D0.out.size _)).mono ?_); rintro e w2 ⟨rfl, hd⟩; have hq := below_setRow (below_alloc (Below.refl w1.heap.size w1) (.cells (row 8 []) 50)) (Nat.le_refl _) (vals (lst h)); have C7 := Aside0.mk (blk_below (setRow_heap _ w1.heap.size _ (vals (lst h)) _ _ (blk_new w1 (.cells (row 8 []) 50))) hd); have n_C3 := Aside0.mk (blk_below (blk_below C3.out hq) hd); have n_C5 := Aside0.mk (blk_below (blk_below C5.out hq) hd); have n_C6 := Aside0.mk (blk_below (blk_below C6.out hq) hd); have n_D0 := Aside0.mk (below_step (below_setRow (below_alloc D0.out (.cells (row 8 []) 50)) D0.out.size (vals (lst h))) hd); have N37 : Aside0 (g3 ≠ w1.heap.size) := ⟨by have := blk_lt C3.out; omega⟩; have N57 : Aside0 (g5 ≠ w1.heap.size) := ⟨by have := blk_lt C5.out; omega⟩; have N67 : Aside0 (g6 ≠ w1.heap.size) := ⟨by have := blk_lt C6.out; omega⟩; have G7 : Aside0 (w.heap.size ≤ w1.heap.size) := ⟨D0.out.size⟩; clear C3 C5 C6 D0 hd hq; have C3 := n_C3; have C5 := n_C5; have C6 := n_C6; have D0 := n_D0; clear n_C3 n_C5 n_C6 n_D0)
    | ((with_reducible refine gate_store rfl ?_); refine wpList_store_row rfl 51 (.tmp 8) (.tmp 21) rfl w2.heap.size (vals ws) rfl rfl 51 _ (blk_new _ _) (by rw [hvw]; exact i47) (by rw [hvw]; rfl) (vals_one _) ?_))
  change Code.wp _ _ _ _ ((w2.alloc (.cells (row 64 []) 51)).setRow w2.heap.size (vals ws))
  have hq := below_setRow (below_alloc (Below.refl w2.heap.size w2) (.cells (row 64 []) 51)) (Nat.le_refl _) (vals ws)
  have C8 := Aside0.mk (setRow_heap _ w2.heap.size _ (vals ws) _ _ (blk_new w2 (.cells (row 64 []) 51)))
  have n_C3 := Aside0.mk (blk_below C3.out hq)
  have n_C5 := Aside0.mk (blk_below C5.out hq)
  have n_C6 := Aside0.mk (blk_below C6.out hq)
  have n_C7 := Aside0.mk (blk_below C7.out hq)
  have n_D0 := Aside0.mk (below_setRow (below_alloc D0.out (.cells (row 64 []) 51)) D0.out.size (vals ws))
  have N87 : Aside0 (w2.heap.size ≠ w1.heap.size) := ⟨by have := blk_lt C7.out; omega⟩
  clear C3 C5 C6 C7 D0 hq
  have C3 := n_C3
  have C5 := n_C5
  have C6 := n_C6
  have C7 := n_C7
  have D0 := n_D0
  clear n_C3 n_C5 n_C6 n_C7 n_D0
  obtain ⟨g7, hg7⟩ : ∃ g, g = w1.heap.size := ⟨_, rfl⟩
  obtain ⟨g8, hg8⟩ : ∃ g, g = w2.heap.size := ⟨_, rfl⟩
  have P7 : (Value.pointer (some ⟨w1.heap.size, 0, none⟩)) = .pointer (some ⟨g7, 0, none⟩) := by rw [hg7]
  have P8 : (Value.pointer (some ⟨w2.heap.size, 0, none⟩)) = .pointer (some ⟨g8, 0, none⟩) := by rw [hg8]
  rw [P7, P8]
  generalize (w2.alloc (.cells (row 64 []) 51)).setRow w2.heap.size (vals ws) = w3 at C3 C5 C6 C7 C8 D0 ⊢
  rw [← hg8] at C8 N87
  rw [← hg7] at C7 N37 N57 N67 N87 G7
  clear P7 P8 hg7 hg8
  try simp only [Act.put]
  go_loopw [9] (fun i W => ∃ n : Nat, n ≤ 64 ∧ i = .int .i64 n ∧ Aside0 (W.heap[g7]? = some (.cells (vals (lst (rnds ks ws h n))) 50 (0, 0))) ∧ Aside0 (W.heap[g8]? = some (.cells (vals ws) 51 (0, 0))) ∧ Aside0 (W.heap[g5]? = some (.cells (vals ks) 51 (0, 0))) ∧ Aside0 (W.heap[g3]? = some (.cells (vals (lst h)) 50 (0, 0))) ∧ Aside0 (W.heap[g6]? = some (.cells (row 8 []) 50 (0, 0))) ∧ Aside0 (Below w.heap.size w W)) (fun i _ => 64 - (intOf i).toNat)
  case atStart => exact ⟨0, by omega, rfl, C7, C8, C5, C3, C6, D0⟩
  case round =>
    clear C7 C8 C5 C3 C6 D0
    obtain ⟨n, hn, rfl, C7, C8, C5, C3, C6, D0⟩ := hrel
    by_cases hlt : n < 64
    · have hn64 : n < 64 := hlt
      have pn : (0 ≤ (n : Int)) = True := eq_true (by omega)
      have qn : ((n : Int) < 64) = True := eq_true (by omega)
      obtain ⟨s, hs⟩ : ∃ s, s = rnds ks ws h n := ⟨_, rfl⟩
      have HS := Aside0.mk hs
      rw [← hs] at C7
      clear hs
      obtain ⟨kn, hkn⟩ : ∃ kn, kn = ks.getD n 0 := ⟨_, rfl⟩
      have HKN := Aside0.mk hkn
      obtain ⟨wn, hwn⟩ : ∃ wn, wn = ws.getD n 0 := ⟨_, rfl⟩
      have HWN := Aside0.mk hwn
      clear hkn hwn
      have ha0 : wr.cell? ⟨g7, 0, none⟩ = some (.int .u32 (enc s.a)) := (blk_cell C7.out 0).trans rfl
      have ha4 : wr.cell? ⟨g7, 4, none⟩ = some (.int .u32 (enc s.e)) := (blk_cell C7.out 4).trans rfl
      go_upto_region 9 with (first | (go_at_call 39; (with_reducible refine (right_calls6 _ _).mono ?_); rintro e w2 ⟨rfl, hd⟩; have n_C7 := Aside0.mk (blk_below C7.out hd); have n_C8 := Aside0.mk (blk_below C8.out hd); have n_C5 := Aside0.mk (blk_below C5.out hd); have n_C3 := Aside0.mk (blk_below C3.out hd); have n_C6 := Aside0.mk (blk_below C6.out hd); have n_D0 := Aside0.mk (below_step D0.out hd); clear C7 C8 C5 C3 C6 D0; have C7 := n_C7; have C8 := n_C8; have C5 := n_C5; have C3 := n_C3; have C6 := n_C6; have D0 := n_D0; clear n_C7 n_C8 n_C5 n_C3 n_C6 n_D0; have hc1 : w2.cell? ⟨g7, 1, none⟩ = some (.int .u32 (enc s.b)) := (blk_cell C7.out 1).trans rfl; have hc2 : w2.cell? ⟨g7, 2, none⟩ = some (.int .u32 (enc s.c)) := (blk_cell C7.out 2).trans rfl; have hc5 : w2.cell? ⟨g7, 5, none⟩ = some (.int .u32 (enc s.f)) := (blk_cell C7.out 5).trans rfl; have hc6 : w2.cell? ⟨g7, 6, none⟩ = some (.int .u32 (enc s.g)) := (blk_cell C7.out 6).trans rfl; clear hd) | (go_at_call 39; (with_reducible refine (right_calls11 _ _).mono ?_); rintro e w2 ⟨rfl, hd⟩; have n_C7 := Aside0.mk (blk_below C7.out hd); have n_C8 := Aside0.mk (blk_below C8.out hd); have n_C5 := Aside0.mk (blk_below C5.out hd); have n_C3 := Aside0.mk (blk_below C3.out hd); have n_C6 := Aside0.mk (blk_below C6.out hd); have n_D0 := Aside0.mk (below_step D0.out hd); clear C7 C8 C5 C3 C6 D0; have C7 := n_C7; have C8 := n_C8; have C5 := n_C5; have C3 := n_C3; have C6 := n_C6; have D0 := n_D0; clear n_C7 n_C8 n_C5 n_C3 n_C6 n_D0; have hc1 : w2.cell? ⟨g7, 1, none⟩ = some (.int .u32 (enc s.b)) := (blk_cell C7.out 1).trans rfl; have hc2 : w2.cell? ⟨g7, 2, none⟩ = some (.int .u32 (enc s.c)) := (blk_cell C7.out 2).trans rfl; have hc5 : w2.cell? ⟨g7, 5, none⟩ = some (.int .u32 (enc s.f)) := (blk_cell C7.out 5).trans rfl; have hc6 : w2.cell? ⟨g7, 6, none⟩ = some (.int .u32 (enc s.g)) := (blk_cell C7.out 6).trans rfl; clear hd) | (go_at_call 39; (with_reducible refine (right_calls25 _ _).mono ?_); rintro e w2 ⟨rfl, hd⟩; have n_C7 := Aside0.mk (blk_below C7.out hd); have n_C8 := Aside0.mk (blk_below C8.out hd); have n_C5 := Aside0.mk (blk_below C5.out hd); have n_C3 := Aside0.mk (blk_below C3.out hd); have n_C6 := Aside0.mk (blk_below C6.out hd); have n_D0 := Aside0.mk (below_step D0.out hd); clear C7 C8 C5 C3 C6 D0; have C7 := n_C7; have C8 := n_C8; have C5 := n_C5; have C3 := n_C3; have C6 := n_C6; have D0 := n_D0; clear n_C7 n_C8 n_C5 n_C3 n_C6 n_D0; have hc1 : w2.cell? ⟨g7, 1, none⟩ = some (.int .u32 (enc s.b)) := (blk_cell C7.out 1).trans rfl; have hc2 : w2.cell? ⟨g7, 2, none⟩ = some (.int .u32 (enc s.c)) := (blk_cell C7.out 2).trans rfl; have hc5 : w2.cell? ⟨g7, 5, none⟩ = some (.int .u32 (enc s.f)) := (blk_cell C7.out 5).trans rfl; have hc6 : w2.cell? ⟨g7, 6, none⟩ = some (.int .u32 (enc s.g)) := (blk_cell C7.out 6).trans rfl; clear hd))
      go_upto_region 10 with (first | (go_at_call 39; (with_reducible refine (right_calls2 _ _).mono ?_); rintro e w2 ⟨rfl, hd⟩; have n_C7 := Aside0.mk (blk_below C7.out hd); have n_C8 := Aside0.mk (blk_below C8.out hd); have n_C5 := Aside0.mk (blk_below C5.out hd); have n_C3 := Aside0.mk (blk_below C3.out hd); have n_C6 := Aside0.mk (blk_below C6.out hd); have n_D0 := Aside0.mk (below_step D0.out hd); clear C7 C8 C5 C3 C6 D0; have C7 := n_C7; have C8 := n_C8; have C5 := n_C5; have C3 := n_C3; have C6 := n_C6; have D0 := n_D0; clear n_C7 n_C8 n_C5 n_C3 n_C6 n_D0; have hc1 : w2.cell? ⟨g7, 1, none⟩ = some (.int .u32 (enc s.b)) := (blk_cell C7.out 1).trans rfl; have hc2 : w2.cell? ⟨g7, 2, none⟩ = some (.int .u32 (enc s.c)) := (blk_cell C7.out 2).trans rfl; have hc5 : w2.cell? ⟨g7, 5, none⟩ = some (.int .u32 (enc s.f)) := (blk_cell C7.out 5).trans rfl; have hc6 : w2.cell? ⟨g7, 6, none⟩ = some (.int .u32 (enc s.g)) := (blk_cell C7.out 6).trans rfl; clear hd) | (go_at_call 39; (with_reducible refine (right_calls13 _ _).mono ?_); rintro e w2 ⟨rfl, hd⟩; have n_C7 := Aside0.mk (blk_below C7.out hd); have n_C8 := Aside0.mk (blk_below C8.out hd); have n_C5 := Aside0.mk (blk_below C5.out hd); have n_C3 := Aside0.mk (blk_below C3.out hd); have n_C6 := Aside0.mk (blk_below C6.out hd); have n_D0 := Aside0.mk (below_step D0.out hd); clear C7 C8 C5 C3 C6 D0; have C7 := n_C7; have C8 := n_C8; have C5 := n_C5; have C3 := n_C3; have C6 := n_C6; have D0 := n_D0; clear n_C7 n_C8 n_C5 n_C3 n_C6 n_D0; have hc1 : w2.cell? ⟨g7, 1, none⟩ = some (.int .u32 (enc s.b)) := (blk_cell C7.out 1).trans rfl; have hc2 : w2.cell? ⟨g7, 2, none⟩ = some (.int .u32 (enc s.c)) := (blk_cell C7.out 2).trans rfl; have hc5 : w2.cell? ⟨g7, 5, none⟩ = some (.int .u32 (enc s.f)) := (blk_cell C7.out 5).trans rfl; have hc6 : w2.cell? ⟨g7, 6, none⟩ = some (.int .u32 (enc s.g)) := (blk_cell C7.out 6).trans rfl; clear hd) | (go_at_call 39; (with_reducible refine (right_calls22 _ _).mono ?_); rintro e w2 ⟨rfl, hd⟩; have n_C7 := Aside0.mk (blk_below C7.out hd); have n_C8 := Aside0.mk (blk_below C8.out hd); have n_C5 := Aside0.mk (blk_below C5.out hd); have n_C3 := Aside0.mk (blk_below C3.out hd); have n_C6 := Aside0.mk (blk_below C6.out hd); have n_D0 := Aside0.mk (below_step D0.out hd); clear C7 C8 C5 C3 C6 D0; have C7 := n_C7; have C8 := n_C8; have C5 := n_C5; have C3 := n_C3; have C6 := n_C6; have D0 := n_D0; clear n_C7 n_C8 n_C5 n_C3 n_C6 n_D0; have hc1 : w2.cell? ⟨g7, 1, none⟩ = some (.int .u32 (enc s.b)) := (blk_cell C7.out 1).trans rfl; have hc2 : w2.cell? ⟨g7, 2, none⟩ = some (.int .u32 (enc s.c)) := (blk_cell C7.out 2).trans rfl; have hc5 : w2.cell? ⟨g7, 5, none⟩ = some (.int .u32 (enc s.f)) := (blk_cell C7.out 5).trans rfl; have hc6 : w2.cell? ⟨g7, 6, none⟩ = some (.int .u32 (enc s.g)) := (blk_cell C7.out 6).trans rfl; clear hd))
      go_upto_region 12 with (fail)
      refine start_ (n := 15) (S := fun W => W.heap[g7]? = some (.cells (vals (lst s)) 50 (0, 0)) ∧ W.heap[g5]? = some (.cells (vals ks) 51 (0, 0)) ∧ W.heap[g8]? = some (.cells (vals ws) 51 (0, 0))) (ds := []) #[false, false, false, false, false, false, false, false, false, false, false, false, false, false, false] (by kernel_rfl) rfl rfl ⟨blk_drew C7.out, blk_drew C5.out, blk_drew C8.out⟩ (fun hHeld => ?_); refine with_tabW blk.tab12 blk.bits12 (fun HT_ HW_ => ?_)
      have n_C7 := Aside0.mk (blk_drew C7.out)
      have n_C8 := Aside0.mk (blk_drew C8.out)
      have n_C5 := Aside0.mk (blk_drew C5.out)
      have n_C3 := Aside0.mk (blk_drew C3.out)
      have n_C6 := Aside0.mk (blk_drew C6.out)
      have n_D0 := Aside0.mk (below_drew1 D0.out)
      clear C7 C8 C5 C3 C6 D0
      have C7 := n_C7
      have C8 := n_C8
      have C5 := n_C5
      have C3 := n_C3
      have C6 := n_C6
      have D0 := n_D0
      clear n_C7 n_C8 n_C5 n_C3 n_C6 n_D0
      generalize World.drew _ = wR at C7 C8 C5 C3 C6 D0 hHeld ⊢
      refine pure_ (i := 0) (N := some 71) (v := ?_) (a' := ?_) #[true, false, false, false, false, false, false, false, false, false, false, false, false, false, false] rfl rfl (any_of HT_.out (by kernel_rfl)) (fun _ _ _ h => h) (Or.inl ⟨by rfl, ?_⟩) ?_ ?_
      rotate_left
      · intro w'
        go_simp
        with_reducible rfl
      rotate_left
      · simp only [Act.put, List.setIfInBounds_toArray, List.set_cons_zero, List.set_cons_succ, i64_w, i32_w]
        rfl
      refine pure_ (i := 2) (N := some 73) (v := ?_) (a' := ?_) #[true, false, true, false, false, false, false, false, false, false, false, false, false, false, false] rfl rfl (any_of HT_.out (by kernel_rfl)) (fun _ _ _ h => h) (Or.inl ⟨by rfl, ?_⟩) ?_ ?_
      rotate_left
      · intro w'
        go_simp
        with_reducible rfl
      rotate_left
      · simp only [Act.put, List.setIfInBounds_toArray, List.set_cons_zero, List.set_cons_succ, i64_w, i32_w]
        rfl
      refine pure_ (i := 4) (N := some 75) (v := ?_) (a' := ?_) #[true, false, true, false, true, false, false, false, false, false, false, false, false, false, false] rfl rfl (any_of HT_.out (by kernel_rfl)) (fun _ _ _ h => h) (Or.inl ⟨by rfl, ?_⟩) ?_ ?_
      rotate_left
      · intro w'
        go_simp
        with_reducible rfl
      rotate_left
      · simp only [Act.put, List.setIfInBounds_toArray, List.set_cons_zero, List.set_cons_succ, i64_w, i32_w]
        rfl
      refine pure_ (i := 6) (N := some 77) (v := ?_) (a' := ?_) #[true, false, true, false, true, false, true, false, false, false, false, false, false, false, false] rfl rfl (any_of HT_.out (by kernel_rfl)) (fun _ _ _ h => h) (Or.inl ⟨by rfl, ?_⟩) ?_ ?_
      rotate_left
      · intro w'
        go_simp
        with_reducible rfl
      rotate_left
      · simp only [Act.put, List.setIfInBounds_toArray, List.set_cons_zero, List.set_cons_succ, i64_w, i32_w]
        rfl
      refine pure_ (i := 7) (N := some 78) (v := ?_) (a' := ?_) #[true, false, true, false, true, false, true, true, false, false, false, false, false, false, false] rfl rfl (any_of HT_.out (by kernel_rfl)) (fun _ _ _ h => h) (Or.inl ⟨by rfl, ?_⟩) ?_ ?_
      rotate_left
      · intro w'
        go_simp
        with_reducible rfl
      rotate_left
      · simp only [Act.put, List.setIfInBounds_toArray, List.set_cons_zero, List.set_cons_succ, i64_w, i32_w]
        rfl
      refine pure_ (i := 10) (N := some 81) (v := ?_) (a' := ?_) #[true, false, true, false, true, false, true, true, false, false, true, false, false, false, false] rfl rfl (any_of HT_.out (by kernel_rfl)) (fun _ _ _ h => h) (Or.inl ⟨by rfl, ?_⟩) ?_ ?_
      rotate_left
      · intro w'
        go_simp
        with_reducible rfl
      rotate_left
      · simp only [Act.put, List.setIfInBounds_toArray, List.set_cons_zero, List.set_cons_succ, i64_w, i32_w]
        rfl
      refine pure_ (i := 11) (N := some 82) (v := ?_) (a' := ?_) #[true, false, true, false, true, false, true, true, false, false, true, true, false, false, false] rfl rfl (any_of HT_.out (by kernel_rfl)) (fun _ _ _ h => h) (Or.inl ⟨by rfl, ?_⟩) ?_ ?_
      rotate_left
      · intro w'
        go_simp
        with_reducible rfl
      rotate_left
      · simp only [Act.put, List.setIfInBounds_toArray, List.set_cons_zero, List.set_cons_succ, i64_w, i32_w]
        rfl
      refine take_ (i := 1) (N := some 72) (v := ?_) (a' := ?_) #[true, true, true, false, true, false, true, true, false, false, true, true, false, false, false] rfl rfl (take_ofW HT_.out HW_.out (by kernel_rfl)) (fun _ _ _ h => h) (Or.inl ⟨by rfl, ?_⟩) hHeld ?_ ?_
      rotate_left
      · rintro w' ⟨s0, s1, s2⟩
        have y7 : w'.cell? ⟨g7, 7, none⟩ = some (.int .u32 (enc s.h)) := (blk_cell s0 7).trans rfl
        have yk : w'.cell? ⟨g5, n, none⟩ = some (.int .u32 (enc kn)) := by rw [HKN.out]; exact (blk_cell s1 n).trans (vals_at ks n (by omega))
        have yw : w'.cell? ⟨g8, n, none⟩ = some (.int .u32 (enc wn)) := by rw [HWN.out]; exact (blk_cell s2 n).trans (vals_at ws n (by omega))
        go_simp
        with_reducible rfl
      rotate_left
      · simp only [Act.put, List.setIfInBounds_toArray, List.set_cons_zero, List.set_cons_succ, i64_w, i32_w]
        rfl
      refine take_ (i := 8) (N := some 79) (v := ?_) (a' := ?_) #[true, true, true, false, true, false, true, true, true, false, true, true, false, false, false] rfl rfl (take_ofW HT_.out HW_.out (by kernel_rfl)) (fun _ _ _ h => h) (Or.inl ⟨by rfl, ?_⟩) hHeld ?_ ?_
      rotate_left
      · rintro w' ⟨s0, s1, s2⟩
        have y7 : w'.cell? ⟨g7, 7, none⟩ = some (.int .u32 (enc s.h)) := (blk_cell s0 7).trans rfl
        have yk : w'.cell? ⟨g5, n, none⟩ = some (.int .u32 (enc kn)) := by rw [HKN.out]; exact (blk_cell s1 n).trans (vals_at ks n (by omega))
        have yw : w'.cell? ⟨g8, n, none⟩ = some (.int .u32 (enc wn)) := by rw [HWN.out]; exact (blk_cell s2 n).trans (vals_at ws n (by omega))
        go_simp
        with_reducible rfl
      rotate_left
      · simp only [Act.put, List.setIfInBounds_toArray, List.set_cons_zero, List.set_cons_succ, i64_w, i32_w]
        rfl
      refine take_ (i := 12) (N := some 83) (v := ?_) (a' := ?_) #[true, true, true, false, true, false, true, true, true, false, true, true, true, false, false] rfl rfl (take_ofW HT_.out HW_.out (by kernel_rfl)) (fun _ _ _ h => h) (Or.inl ⟨by rfl, ?_⟩) hHeld ?_ ?_
      rotate_left
      · rintro w' ⟨s0, s1, s2⟩
        have y7 : w'.cell? ⟨g7, 7, none⟩ = some (.int .u32 (enc s.h)) := (blk_cell s0 7).trans rfl
        have yk : w'.cell? ⟨g5, n, none⟩ = some (.int .u32 (enc kn)) := by rw [HKN.out]; exact (blk_cell s1 n).trans (vals_at ks n (by omega))
        have yw : w'.cell? ⟨g8, n, none⟩ = some (.int .u32 (enc wn)) := by rw [HWN.out]; exact (blk_cell s2 n).trans (vals_at ws n (by omega))
        go_simp
        with_reducible rfl
      rotate_left
      · simp only [Act.put, List.setIfInBounds_toArray, List.set_cons_zero, List.set_cons_succ, i64_w, i32_w]
        rfl
      refine pure_ (i := 3) (N := some 74) (v := ?_) (a' := ?_) #[true, true, true, true, true, false, true, true, true, false, true, true, true, false, false] rfl rfl (any_of HT_.out (by kernel_rfl)) (fun _ _ _ h => h) (Or.inl ⟨by rfl, ?_⟩) ?_ ?_
      rotate_left
      · intro w'
        go_simp
        with_reducible rfl
      rotate_left
      · simp only [Act.put, List.setIfInBounds_toArray, List.set_cons_zero, List.set_cons_succ, i64_w, i32_w]
        rfl
      refine pure_ (i := 5) (N := some 76) (v := ?_) (a' := ?_) #[true, true, true, true, true, true, true, true, true, false, true, true, true, false, false] rfl rfl (any_of HT_.out (by kernel_rfl)) (fun _ _ _ h => h) (Or.inl ⟨by rfl, ?_⟩) ?_ ?_
      rotate_left
      · intro w'
        go_simp
        with_reducible rfl
      rotate_left
      · simp only [Act.put, List.setIfInBounds_toArray, List.set_cons_zero, List.set_cons_succ, i64_w, i32_w]
        rfl
      refine pure_ (i := 9) (N := some 80) (v := ?_) (a' := ?_) #[true, true, true, true, true, true, true, true, true, true, true, true, true, false, false] rfl rfl (any_of HT_.out (by kernel_rfl)) (fun _ _ _ h => h) (Or.inl ⟨by rfl, ?_⟩) ?_ ?_
      rotate_left
      · intro w'
        go_simp
        with_reducible rfl
      rotate_left
      · simp only [Act.put, List.setIfInBounds_toArray, List.set_cons_zero, List.set_cons_succ, i64_w, i32_w]
        rfl
      refine pure_ (i := 13) (N := some 84) (v := ?_) (a' := ?_) #[true, true, true, true, true, true, true, true, true, true, true, true, true, true, false] rfl rfl (any_of HT_.out (by kernel_rfl)) (fun _ _ _ h => h) (Or.inl ⟨by rfl, ?_⟩) ?_ ?_
      rotate_left
      · intro w'
        go_simp
        with_reducible rfl
      rotate_left
      · simp only [Act.put, List.setIfInBounds_toArray, List.set_cons_zero, List.set_cons_succ, i64_w, i32_w]
        rfl
      refine pure_ (i := 14) (N := some 16) (v := ?_) (a' := ?_) #[true, true, true, true, true, true, true, true, true, true, true, true, true, true, true] rfl rfl (any_of HT_.out (by kernel_rfl)) (fun _ _ _ h => h) (Or.inl ⟨by rfl, ?_⟩) ?_ ?_
      rotate_left
      · intro w'
        go_simp
        with_reducible rfl
      rotate_left
      · simp only [Act.put, List.setIfInBounds_toArray, List.set_cons_zero, List.set_cons_succ, i64_w, i32_w]
        rfl
      refine done_ (done_of HT_.out (by kernel_rfl)) ?_
      have hc0 : wR.cell? ⟨g7, 0, none⟩ = some (.int .u32 (enc s.a)) := (blk_cell C7.out 0).trans rfl
      have hc1 : wR.cell? ⟨g7, 1, none⟩ = some (.int .u32 (enc s.b)) := (blk_cell C7.out 1).trans rfl
      have hc2 : wR.cell? ⟨g7, 2, none⟩ = some (.int .u32 (enc s.c)) := (blk_cell C7.out 2).trans rfl
      have hc3 : wR.cell? ⟨g7, 3, none⟩ = some (.int .u32 (enc s.d)) := (blk_cell C7.out 3).trans rfl
      have hc4 : wR.cell? ⟨g7, 4, none⟩ = some (.int .u32 (enc s.e)) := (blk_cell C7.out 4).trans rfl
      have hc5 : wR.cell? ⟨g7, 5, none⟩ = some (.int .u32 (enc s.f)) := (blk_cell C7.out 5).trans rfl
      have hc6 : wR.cell? ⟨g7, 6, none⟩ = some (.int .u32 (enc s.g)) := (blk_cell C7.out 6).trans rfl
      go_wp2_with ((with_reducible refine gate_store rfl ?_); go_loud (refine wpList_store_row rfl 50 (.tmp 7) (.tmp 107) rfl g7 (vals (lst (rnd s kn wn))) rfl rfl 50 _ C7.out (by rw [show (vals (lst (rnd s kn wn))).size = 8 from rfl]; exact i46) rfl (vals_one _) ?_))
      go_roundw
      case rel => exact ⟨n + 1, by omega, by go_num, ⟨by rw [show rnds ks ws h (n + 1) = rnd s kn wn from by rw [HS.out, HKN.out, HWN.out]; rfl]; exact setRow_heap _ _ _ _ _ _ C7.out⟩, ⟨(setRow_other _ _ _ _ N87.out).trans C8.out⟩, ⟨(setRow_other _ _ _ _ N57.out).trans C5.out⟩, ⟨(setRow_other _ _ _ _ N37.out).trans C3.out⟩, ⟨(setRow_other _ _ _ _ N67.out).trans C6.out⟩, ⟨below_setRow D0.out G7.out _⟩⟩
      case measure => simp [intOf]; omega
    · have hn64 : n = 64 := by omega
      have q64 : ((n : Int) < 64) = False := eq_false (by omega)
      obtain ⟨X, hX⟩ : ∃ X, X = rnds ks ws h 64 := ⟨_, rfl⟩
      have HX := Aside0.mk hX
      have C7' := C7
      rw [hn64, ← hX] at C7'
      clear hX hn64 C7 hlt hn
      go_wp2
      clear q64
      go_loopw [18] (fun i W => ∃ n : Nat, n ≤ 8 ∧ i = .int .i64 n ∧ Aside0 (W.heap[g7]? = some (.cells (vals (lst (pl X h n))) 50 (0, 0))) ∧ Aside0 (W.heap[g8]? = some (.cells (vals ws) 51 (0, 0))) ∧ Aside0 (W.heap[g5]? = some (.cells (vals ks) 51 (0, 0))) ∧ Aside0 (W.heap[g3]? = some (.cells (vals (lst h)) 50 (0, 0))) ∧ Aside0 (W.heap[g6]? = some (.cells (row 8 []) 50 (0, 0))) ∧ Aside0 (Below w.heap.size w W)) (fun i _ => 8 - (intOf i).toNat)
      case atStart => exact ⟨0, by omega, rfl, C7', C8, C5, C3, C6, D0⟩
      case round =>
      clear C7' C8 C5 C3 C6 D0
      obtain ⟨n, hn, rfl, C7, C8, C5, C3, C6, D0⟩ := hrel
      have cases : n = 0 ∨ n = 1 ∨ n = 2 ∨ n = 3 ∨ n = 4 ∨ n = 5 ∨ n = 6 ∨ n = 7 ∨ n = 8 := by omega
      rcases cases with rfl | rfl | rfl | rfl | rfl | rfl | rfl | rfl | rfl
      · have q8 : (((0 : Nat) : Int) < 8) = True := eq_true (by omega)
        go_upto_region 18 with (fail)
        refine start_ (n := 10) (S := fun W => W.heap[g7]? = some (.cells (vals (lst (pl X h 0))) 50 (0, 0)) ∧ W.heap[g3]? = some (.cells (vals (lst h)) 50 (0, 0))) (ds := [9]) #[false, false, false, false, false, false, false, false, false, false] (by kernel_rfl) rfl rfl ⟨blk_drew C7.out, blk_drew C3.out⟩ (fun hHeld => ?_); refine with_tabW blk.tab18 blk.bits18 (fun HT_ HW_ => ?_)
        have n_C7 := Aside0.mk (blk_drew C7.out)
        have n_C8 := Aside0.mk (blk_drew C8.out)
        have n_C5 := Aside0.mk (blk_drew C5.out)
        have n_C3 := Aside0.mk (blk_drew C3.out)
        have n_C6 := Aside0.mk (blk_drew C6.out)
        have n_D0 := Aside0.mk (below_drew1 D0.out)
        clear C7 C8 C5 C3 C6 D0
        have C7 := n_C7
        have C8 := n_C8
        have C5 := n_C5
        have C3 := n_C3
        have C6 := n_C6
        have D0 := n_D0
        clear n_C7 n_C8 n_C5 n_C3 n_C6 n_D0
        generalize World.drew _ = wR at C7 C8 C5 C3 C6 D0 hHeld ⊢
        refine pure_ (i := 0) (N := some 112) (v := ?_) (a' := ?_) #[true, false, false, false, false, false, false, false, false, false] rfl rfl (any_of HT_.out (by kernel_rfl)) (fun _ _ _ h => h) (Or.inl ⟨by rfl, ?_⟩) ?_ ?_
        rotate_left
        · intro w'
          go_simp
          with_reducible rfl
        rotate_left
        · simp only [Act.put, List.setIfInBounds_toArray, List.set_cons_zero, List.set_cons_succ, i64_w, i32_w]
          rfl
        refine pure_ (i := 1) (N := some 113) (v := ?_) (a' := ?_) #[true, true, false, false, false, false, false, false, false, false] rfl rfl (any_of HT_.out (by kernel_rfl)) (fun _ _ _ h => h) (Or.inl ⟨by rfl, ?_⟩) ?_ ?_
        rotate_left
        · intro w'
          go_simp
          with_reducible rfl
        rotate_left
        · simp only [Act.put, List.setIfInBounds_toArray, List.set_cons_zero, List.set_cons_succ, i64_w, i32_w]
          rfl
        refine pure_ (i := 2) (N := some 114) (v := ?_) (a' := ?_) #[true, true, true, false, false, false, false, false, false, false] rfl rfl (any_of HT_.out (by kernel_rfl)) (fun _ _ _ h => h) (Or.inl ⟨by rfl, ?_⟩) ?_ ?_
        rotate_left
        · intro w'
          go_simp
          with_reducible rfl
        rotate_left
        · simp only [Act.put, List.setIfInBounds_toArray, List.set_cons_zero, List.set_cons_succ, i64_w, i32_w]
          rfl
        refine pure_ (i := 4) (N := some 116) (v := ?_) (a' := ?_) #[true, true, true, false, true, false, false, false, false, false] rfl rfl (any_of HT_.out (by kernel_rfl)) (fun _ _ _ h => h) (Or.inl ⟨by rfl, ?_⟩) ?_ ?_
        rotate_left
        · intro w'
          go_simp
          with_reducible rfl
        rotate_left
        · simp only [Act.put, List.setIfInBounds_toArray, List.set_cons_zero, List.set_cons_succ, i64_w, i32_w]
          rfl
        refine pure_ (i := 5) (N := some 117) (v := ?_) (a' := ?_) #[true, true, true, false, true, true, false, false, false, false] rfl rfl (any_of HT_.out (by kernel_rfl)) (fun _ _ _ h => h) (Or.inl ⟨by rfl, ?_⟩) ?_ ?_
        rotate_left
        · intro w'
          go_simp
          with_reducible rfl
        rotate_left
        · simp only [Act.put, List.setIfInBounds_toArray, List.set_cons_zero, List.set_cons_succ, i64_w, i32_w]
          rfl
        refine take_ (i := 3) (N := some 115) (v := ?_) (a' := ?_) #[true, true, true, true, true, true, false, false, false, false] rfl rfl (take_ofW HT_.out HW_.out (by kernel_rfl)) (fun _ _ _ h => h) (Or.inl ⟨by rfl, ?_⟩) hHeld ?_ ?_
        rotate_left
        · rintro w' ⟨s0, s1⟩
          have y0 : w'.cell? ⟨g7, 0, none⟩ = some (.int .u32 (enc X.a)) := (blk_cell s0 0).trans rfl
          have y1 : w'.cell? ⟨g3, 0, none⟩ = some (.int .u32 (enc h.a)) := (blk_cell s1 0).trans rfl
          go_simp
          with_reducible rfl
        rotate_left
        · simp only [Act.put, List.setIfInBounds_toArray, List.set_cons_zero, List.set_cons_succ, i64_w, i32_w]
          rfl
        refine take_ (i := 6) (N := some 118) (v := ?_) (a' := ?_) #[true, true, true, true, true, true, true, false, false, false] rfl rfl (take_ofW HT_.out HW_.out (by kernel_rfl)) (fun _ _ _ h => h) (Or.inl ⟨by rfl, ?_⟩) hHeld ?_ ?_
        rotate_left
        · rintro w' ⟨s0, s1⟩
          have y0 : w'.cell? ⟨g7, 0, none⟩ = some (.int .u32 (enc X.a)) := (blk_cell s0 0).trans rfl
          have y1 : w'.cell? ⟨g3, 0, none⟩ = some (.int .u32 (enc h.a)) := (blk_cell s1 0).trans rfl
          go_simp
          with_reducible rfl
        rotate_left
        · simp only [Act.put, List.setIfInBounds_toArray, List.set_cons_zero, List.set_cons_succ, i64_w, i32_w]
          rfl
        refine pure_ (i := 7) (N := some 119) (v := ?_) (a' := ?_) #[true, true, true, true, true, true, true, true, false, false] rfl rfl (any_of HT_.out (by kernel_rfl)) (fun _ _ _ h => h) (Or.inl ⟨by rfl, ?_⟩) ?_ ?_
        rotate_left
        · intro w'
          go_simp
          with_reducible rfl
        rotate_left
        · simp only [Act.put, List.setIfInBounds_toArray, List.set_cons_zero, List.set_cons_succ, i64_w, i32_w]
          rfl
        refine pure_ (i := 8) (N := some 120) (v := ?_) (a' := ?_) #[true, true, true, true, true, true, true, true, true, false] rfl rfl (any_of HT_.out (by kernel_rfl)) (fun _ _ _ h => h) (Or.inl ⟨by rfl, ?_⟩) ?_ ?_
        rotate_left
        · intro w'
          go_simp
          with_reducible rfl
        rotate_left
        · simp only [Act.put, List.setIfInBounds_toArray, List.set_cons_zero, List.set_cons_succ, i64_w, i32_w]
          rfl
        refine last_ (i := 9) (N := none) #[true, true, true, true, true, true, true, true, true, true] rfl rfl (one_of HT_.out (by kernel_rfl)) (by decide) (fun K hK => ?_)
        have hz : wR.cell? ⟨g7, 0, none⟩ = some (.int .u32 (enc X.a)) := (blk_cell C7.out 0).trans rfl
        have hf := blk_frozen C7.out 0
        refine skip_ (w1 := ?_) (by rfl) rfl ?_ ?_
        rotate_left
        · go_simp
          rfl
        refine hK.out _ _ ?_
        clear hK K
        refine done_ (done_of HT_.out (by kernel_rfl)) ?_
        go_wp2
        go_roundw
        case rel => exact ⟨1, by omega, by go_num, ⟨blk_put C7.out 0 _ rfl⟩, ⟨blk_far C8.out (p := ⟨g7, 0, none⟩) N87.out _⟩, ⟨blk_far C5.out (p := ⟨g7, 0, none⟩) N57.out _⟩, ⟨blk_far C3.out (p := ⟨g7, 0, none⟩) N37.out _⟩, ⟨blk_far C6.out (p := ⟨g7, 0, none⟩) N67.out _⟩, ⟨below_set' D0.out G7.out⟩⟩
        case measure => simp [intOf]
      · have q8 : (((1 : Nat) : Int) < 8) = True := eq_true (by omega)
        go_upto_region 18 with (fail)
        refine start_ (n := 10) (S := fun W => W.heap[g7]? = some (.cells (vals (lst (pl X h 1))) 50 (0, 0)) ∧ W.heap[g3]? = some (.cells (vals (lst h)) 50 (0, 0))) (ds := [9]) #[false, false, false, false, false, false, false, false, false, false] (by kernel_rfl) rfl rfl ⟨blk_drew C7.out, blk_drew C3.out⟩ (fun hHeld => ?_); refine with_tabW blk.tab18 blk.bits18 (fun HT_ HW_ => ?_)
        have n_C7 := Aside0.mk (blk_drew C7.out)
        have n_C8 := Aside0.mk (blk_drew C8.out)
        have n_C5 := Aside0.mk (blk_drew C5.out)
        have n_C3 := Aside0.mk (blk_drew C3.out)
        have n_C6 := Aside0.mk (blk_drew C6.out)
        have n_D0 := Aside0.mk (below_drew1 D0.out)
        clear C7 C8 C5 C3 C6 D0
        have C7 := n_C7
        have C8 := n_C8
        have C5 := n_C5
        have C3 := n_C3
        have C6 := n_C6
        have D0 := n_D0
        clear n_C7 n_C8 n_C5 n_C3 n_C6 n_D0
        generalize World.drew _ = wR at C7 C8 C5 C3 C6 D0 hHeld ⊢
        refine pure_ (i := 0) (N := some 112) (v := ?_) (a' := ?_) #[true, false, false, false, false, false, false, false, false, false] rfl rfl (any_of HT_.out (by kernel_rfl)) (fun _ _ _ h => h) (Or.inl ⟨by rfl, ?_⟩) ?_ ?_
        rotate_left
        · intro w'
          go_simp
          with_reducible rfl
        rotate_left
        · simp only [Act.put, List.setIfInBounds_toArray, List.set_cons_zero, List.set_cons_succ, i64_w, i32_w]
          rfl
        refine pure_ (i := 1) (N := some 113) (v := ?_) (a' := ?_) #[true, true, false, false, false, false, false, false, false, false] rfl rfl (any_of HT_.out (by kernel_rfl)) (fun _ _ _ h => h) (Or.inl ⟨by rfl, ?_⟩) ?_ ?_
        rotate_left
        · intro w'
          go_simp
          with_reducible rfl
        rotate_left
        · simp only [Act.put, List.setIfInBounds_toArray, List.set_cons_zero, List.set_cons_succ, i64_w, i32_w]
          rfl
        refine pure_ (i := 2) (N := some 114) (v := ?_) (a' := ?_) #[true, true, true, false, false, false, false, false, false, false] rfl rfl (any_of HT_.out (by kernel_rfl)) (fun _ _ _ h => h) (Or.inl ⟨by rfl, ?_⟩) ?_ ?_
        rotate_left
        · intro w'
          go_simp
          with_reducible rfl
        rotate_left
        · simp only [Act.put, List.setIfInBounds_toArray, List.set_cons_zero, List.set_cons_succ, i64_w, i32_w]
          rfl
        refine pure_ (i := 4) (N := some 116) (v := ?_) (a' := ?_) #[true, true, true, false, true, false, false, false, false, false] rfl rfl (any_of HT_.out (by kernel_rfl)) (fun _ _ _ h => h) (Or.inl ⟨by rfl, ?_⟩) ?_ ?_
        rotate_left
        · intro w'
          go_simp
          with_reducible rfl
        rotate_left
        · simp only [Act.put, List.setIfInBounds_toArray, List.set_cons_zero, List.set_cons_succ, i64_w, i32_w]
          rfl
        refine pure_ (i := 5) (N := some 117) (v := ?_) (a' := ?_) #[true, true, true, false, true, true, false, false, false, false] rfl rfl (any_of HT_.out (by kernel_rfl)) (fun _ _ _ h => h) (Or.inl ⟨by rfl, ?_⟩) ?_ ?_
        rotate_left
        · intro w'
          go_simp
          with_reducible rfl
        rotate_left
        · simp only [Act.put, List.setIfInBounds_toArray, List.set_cons_zero, List.set_cons_succ, i64_w, i32_w]
          rfl
        refine take_ (i := 3) (N := some 115) (v := ?_) (a' := ?_) #[true, true, true, true, true, true, false, false, false, false] rfl rfl (take_ofW HT_.out HW_.out (by kernel_rfl)) (fun _ _ _ h => h) (Or.inl ⟨by rfl, ?_⟩) hHeld ?_ ?_
        rotate_left
        · rintro w' ⟨s0, s1⟩
          have y0 : w'.cell? ⟨g7, 1, none⟩ = some (.int .u32 (enc X.b)) := (blk_cell s0 1).trans rfl
          have y1 : w'.cell? ⟨g3, 1, none⟩ = some (.int .u32 (enc h.b)) := (blk_cell s1 1).trans rfl
          go_simp
          with_reducible rfl
        rotate_left
        · simp only [Act.put, List.setIfInBounds_toArray, List.set_cons_zero, List.set_cons_succ, i64_w, i32_w]
          rfl
        refine take_ (i := 6) (N := some 118) (v := ?_) (a' := ?_) #[true, true, true, true, true, true, true, false, false, false] rfl rfl (take_ofW HT_.out HW_.out (by kernel_rfl)) (fun _ _ _ h => h) (Or.inl ⟨by rfl, ?_⟩) hHeld ?_ ?_
        rotate_left
        · rintro w' ⟨s0, s1⟩
          have y0 : w'.cell? ⟨g7, 1, none⟩ = some (.int .u32 (enc X.b)) := (blk_cell s0 1).trans rfl
          have y1 : w'.cell? ⟨g3, 1, none⟩ = some (.int .u32 (enc h.b)) := (blk_cell s1 1).trans rfl
          go_simp
          with_reducible rfl
        rotate_left
        · simp only [Act.put, List.setIfInBounds_toArray, List.set_cons_zero, List.set_cons_succ, i64_w, i32_w]
          rfl
        refine pure_ (i := 7) (N := some 119) (v := ?_) (a' := ?_) #[true, true, true, true, true, true, true, true, false, false] rfl rfl (any_of HT_.out (by kernel_rfl)) (fun _ _ _ h => h) (Or.inl ⟨by rfl, ?_⟩) ?_ ?_
        rotate_left
        · intro w'
          go_simp
          with_reducible rfl
        rotate_left
        · simp only [Act.put, List.setIfInBounds_toArray, List.set_cons_zero, List.set_cons_succ, i64_w, i32_w]
          rfl
        refine pure_ (i := 8) (N := some 120) (v := ?_) (a' := ?_) #[true, true, true, true, true, true, true, true, true, false] rfl rfl (any_of HT_.out (by kernel_rfl)) (fun _ _ _ h => h) (Or.inl ⟨by rfl, ?_⟩) ?_ ?_
        rotate_left
        · intro w'
          go_simp
          with_reducible rfl
        rotate_left
        · simp only [Act.put, List.setIfInBounds_toArray, List.set_cons_zero, List.set_cons_succ, i64_w, i32_w]
          rfl
        refine last_ (i := 9) (N := none) #[true, true, true, true, true, true, true, true, true, true] rfl rfl (one_of HT_.out (by kernel_rfl)) (by decide) (fun K hK => ?_)
        have hz : wR.cell? ⟨g7, 1, none⟩ = some (.int .u32 (enc X.b)) := (blk_cell C7.out 1).trans rfl
        have hf := blk_frozen C7.out 1
        refine skip_ (w1 := ?_) (by rfl) rfl ?_ ?_
        rotate_left
        · go_simp
          rfl
        refine hK.out _ _ ?_
        clear hK K
        refine done_ (done_of HT_.out (by kernel_rfl)) ?_
        go_wp2
        go_roundw
        case rel => exact ⟨2, by omega, by go_num, ⟨blk_put C7.out 1 _ rfl⟩, ⟨blk_far C8.out (p := ⟨g7, 1, none⟩) N87.out _⟩, ⟨blk_far C5.out (p := ⟨g7, 1, none⟩) N57.out _⟩, ⟨blk_far C3.out (p := ⟨g7, 1, none⟩) N37.out _⟩, ⟨blk_far C6.out (p := ⟨g7, 1, none⟩) N67.out _⟩, ⟨below_set' D0.out G7.out⟩⟩
        case measure => simp [intOf]
      · have q8 : (((2 : Nat) : Int) < 8) = True := eq_true (by omega)
        go_upto_region 18 with (fail)
        refine start_ (n := 10) (S := fun W => W.heap[g7]? = some (.cells (vals (lst (pl X h 2))) 50 (0, 0)) ∧ W.heap[g3]? = some (.cells (vals (lst h)) 50 (0, 0))) (ds := [9]) #[false, false, false, false, false, false, false, false, false, false] (by kernel_rfl) rfl rfl ⟨blk_drew C7.out, blk_drew C3.out⟩ (fun hHeld => ?_); refine with_tabW blk.tab18 blk.bits18 (fun HT_ HW_ => ?_)
        have n_C7 := Aside0.mk (blk_drew C7.out)
        have n_C8 := Aside0.mk (blk_drew C8.out)
        have n_C5 := Aside0.mk (blk_drew C5.out)
        have n_C3 := Aside0.mk (blk_drew C3.out)
        have n_C6 := Aside0.mk (blk_drew C6.out)
        have n_D0 := Aside0.mk (below_drew1 D0.out)
        clear C7 C8 C5 C3 C6 D0
        have C7 := n_C7
        have C8 := n_C8
        have C5 := n_C5
        have C3 := n_C3
        have C6 := n_C6
        have D0 := n_D0
        clear n_C7 n_C8 n_C5 n_C3 n_C6 n_D0
        generalize World.drew _ = wR at C7 C8 C5 C3 C6 D0 hHeld ⊢
        refine pure_ (i := 0) (N := some 112) (v := ?_) (a' := ?_) #[true, false, false, false, false, false, false, false, false, false] rfl rfl (any_of HT_.out (by kernel_rfl)) (fun _ _ _ h => h) (Or.inl ⟨by rfl, ?_⟩) ?_ ?_
        rotate_left
        · intro w'
          go_simp
          with_reducible rfl
        rotate_left
        · simp only [Act.put, List.setIfInBounds_toArray, List.set_cons_zero, List.set_cons_succ, i64_w, i32_w]
          rfl
        refine pure_ (i := 1) (N := some 113) (v := ?_) (a' := ?_) #[true, true, false, false, false, false, false, false, false, false] rfl rfl (any_of HT_.out (by kernel_rfl)) (fun _ _ _ h => h) (Or.inl ⟨by rfl, ?_⟩) ?_ ?_
        rotate_left
        · intro w'
          go_simp
          with_reducible rfl
        rotate_left
        · simp only [Act.put, List.setIfInBounds_toArray, List.set_cons_zero, List.set_cons_succ, i64_w, i32_w]
          rfl
        refine pure_ (i := 2) (N := some 114) (v := ?_) (a' := ?_) #[true, true, true, false, false, false, false, false, false, false] rfl rfl (any_of HT_.out (by kernel_rfl)) (fun _ _ _ h => h) (Or.inl ⟨by rfl, ?_⟩) ?_ ?_
        rotate_left
        · intro w'
          go_simp
          with_reducible rfl
        rotate_left
        · simp only [Act.put, List.setIfInBounds_toArray, List.set_cons_zero, List.set_cons_succ, i64_w, i32_w]
          rfl
        refine pure_ (i := 4) (N := some 116) (v := ?_) (a' := ?_) #[true, true, true, false, true, false, false, false, false, false] rfl rfl (any_of HT_.out (by kernel_rfl)) (fun _ _ _ h => h) (Or.inl ⟨by rfl, ?_⟩) ?_ ?_
        rotate_left
        · intro w'
          go_simp
          with_reducible rfl
        rotate_left
        · simp only [Act.put, List.setIfInBounds_toArray, List.set_cons_zero, List.set_cons_succ, i64_w, i32_w]
          rfl
        refine pure_ (i := 5) (N := some 117) (v := ?_) (a' := ?_) #[true, true, true, false, true, true, false, false, false, false] rfl rfl (any_of HT_.out (by kernel_rfl)) (fun _ _ _ h => h) (Or.inl ⟨by rfl, ?_⟩) ?_ ?_
        rotate_left
        · intro w'
          go_simp
          with_reducible rfl
        rotate_left
        · simp only [Act.put, List.setIfInBounds_toArray, List.set_cons_zero, List.set_cons_succ, i64_w, i32_w]
          rfl
        refine take_ (i := 3) (N := some 115) (v := ?_) (a' := ?_) #[true, true, true, true, true, true, false, false, false, false] rfl rfl (take_ofW HT_.out HW_.out (by kernel_rfl)) (fun _ _ _ h => h) (Or.inl ⟨by rfl, ?_⟩) hHeld ?_ ?_
        rotate_left
        · rintro w' ⟨s0, s1⟩
          have y0 : w'.cell? ⟨g7, 2, none⟩ = some (.int .u32 (enc X.c)) := (blk_cell s0 2).trans rfl
          have y1 : w'.cell? ⟨g3, 2, none⟩ = some (.int .u32 (enc h.c)) := (blk_cell s1 2).trans rfl
          go_simp
          with_reducible rfl
        rotate_left
        · simp only [Act.put, List.setIfInBounds_toArray, List.set_cons_zero, List.set_cons_succ, i64_w, i32_w]
          rfl
        refine take_ (i := 6) (N := some 118) (v := ?_) (a' := ?_) #[true, true, true, true, true, true, true, false, false, false] rfl rfl (take_ofW HT_.out HW_.out (by kernel_rfl)) (fun _ _ _ h => h) (Or.inl ⟨by rfl, ?_⟩) hHeld ?_ ?_
        rotate_left
        · rintro w' ⟨s0, s1⟩
          have y0 : w'.cell? ⟨g7, 2, none⟩ = some (.int .u32 (enc X.c)) := (blk_cell s0 2).trans rfl
          have y1 : w'.cell? ⟨g3, 2, none⟩ = some (.int .u32 (enc h.c)) := (blk_cell s1 2).trans rfl
          go_simp
          with_reducible rfl
        rotate_left
        · simp only [Act.put, List.setIfInBounds_toArray, List.set_cons_zero, List.set_cons_succ, i64_w, i32_w]
          rfl
        refine pure_ (i := 7) (N := some 119) (v := ?_) (a' := ?_) #[true, true, true, true, true, true, true, true, false, false] rfl rfl (any_of HT_.out (by kernel_rfl)) (fun _ _ _ h => h) (Or.inl ⟨by rfl, ?_⟩) ?_ ?_
        rotate_left
        · intro w'
          go_simp
          with_reducible rfl
        rotate_left
        · simp only [Act.put, List.setIfInBounds_toArray, List.set_cons_zero, List.set_cons_succ, i64_w, i32_w]
          rfl
        refine pure_ (i := 8) (N := some 120) (v := ?_) (a' := ?_) #[true, true, true, true, true, true, true, true, true, false] rfl rfl (any_of HT_.out (by kernel_rfl)) (fun _ _ _ h => h) (Or.inl ⟨by rfl, ?_⟩) ?_ ?_
        rotate_left
        · intro w'
          go_simp
          with_reducible rfl
        rotate_left
        · simp only [Act.put, List.setIfInBounds_toArray, List.set_cons_zero, List.set_cons_succ, i64_w, i32_w]
          rfl
        refine last_ (i := 9) (N := none) #[true, true, true, true, true, true, true, true, true, true] rfl rfl (one_of HT_.out (by kernel_rfl)) (by decide) (fun K hK => ?_)
        have hz : wR.cell? ⟨g7, 2, none⟩ = some (.int .u32 (enc X.c)) := (blk_cell C7.out 2).trans rfl
        have hf := blk_frozen C7.out 2
        refine skip_ (w1 := ?_) (by rfl) rfl ?_ ?_
        rotate_left
        · go_simp
          rfl
        refine hK.out _ _ ?_
        clear hK K
        refine done_ (done_of HT_.out (by kernel_rfl)) ?_
        go_wp2
        go_roundw
        case rel => exact ⟨3, by omega, by go_num, ⟨blk_put C7.out 2 _ rfl⟩, ⟨blk_far C8.out (p := ⟨g7, 2, none⟩) N87.out _⟩, ⟨blk_far C5.out (p := ⟨g7, 2, none⟩) N57.out _⟩, ⟨blk_far C3.out (p := ⟨g7, 2, none⟩) N37.out _⟩, ⟨blk_far C6.out (p := ⟨g7, 2, none⟩) N67.out _⟩, ⟨below_set' D0.out G7.out⟩⟩
        case measure => simp [intOf]
      · have q8 : (((3 : Nat) : Int) < 8) = True := eq_true (by omega)
        go_upto_region 18 with (fail)
        refine start_ (n := 10) (S := fun W => W.heap[g7]? = some (.cells (vals (lst (pl X h 3))) 50 (0, 0)) ∧ W.heap[g3]? = some (.cells (vals (lst h)) 50 (0, 0))) (ds := [9]) #[false, false, false, false, false, false, false, false, false, false] (by kernel_rfl) rfl rfl ⟨blk_drew C7.out, blk_drew C3.out⟩ (fun hHeld => ?_); refine with_tabW blk.tab18 blk.bits18 (fun HT_ HW_ => ?_)
        have n_C7 := Aside0.mk (blk_drew C7.out)
        have n_C8 := Aside0.mk (blk_drew C8.out)
        have n_C5 := Aside0.mk (blk_drew C5.out)
        have n_C3 := Aside0.mk (blk_drew C3.out)
        have n_C6 := Aside0.mk (blk_drew C6.out)
        have n_D0 := Aside0.mk (below_drew1 D0.out)
        clear C7 C8 C5 C3 C6 D0
        have C7 := n_C7
        have C8 := n_C8
        have C5 := n_C5
        have C3 := n_C3
        have C6 := n_C6
        have D0 := n_D0
        clear n_C7 n_C8 n_C5 n_C3 n_C6 n_D0
        generalize World.drew _ = wR at C7 C8 C5 C3 C6 D0 hHeld ⊢
        refine pure_ (i := 0) (N := some 112) (v := ?_) (a' := ?_) #[true, false, false, false, false, false, false, false, false, false] rfl rfl (any_of HT_.out (by kernel_rfl)) (fun _ _ _ h => h) (Or.inl ⟨by rfl, ?_⟩) ?_ ?_
        rotate_left
        · intro w'
          go_simp
          with_reducible rfl
        rotate_left
        · simp only [Act.put, List.setIfInBounds_toArray, List.set_cons_zero, List.set_cons_succ, i64_w, i32_w]
          rfl
        refine pure_ (i := 1) (N := some 113) (v := ?_) (a' := ?_) #[true, true, false, false, false, false, false, false, false, false] rfl rfl (any_of HT_.out (by kernel_rfl)) (fun _ _ _ h => h) (Or.inl ⟨by rfl, ?_⟩) ?_ ?_
        rotate_left
        · intro w'
          go_simp
          with_reducible rfl
        rotate_left
        · simp only [Act.put, List.setIfInBounds_toArray, List.set_cons_zero, List.set_cons_succ, i64_w, i32_w]
          rfl
        refine pure_ (i := 2) (N := some 114) (v := ?_) (a' := ?_) #[true, true, true, false, false, false, false, false, false, false] rfl rfl (any_of HT_.out (by kernel_rfl)) (fun _ _ _ h => h) (Or.inl ⟨by rfl, ?_⟩) ?_ ?_
        rotate_left
        · intro w'
          go_simp
          with_reducible rfl
        rotate_left
        · simp only [Act.put, List.setIfInBounds_toArray, List.set_cons_zero, List.set_cons_succ, i64_w, i32_w]
          rfl
        refine pure_ (i := 4) (N := some 116) (v := ?_) (a' := ?_) #[true, true, true, false, true, false, false, false, false, false] rfl rfl (any_of HT_.out (by kernel_rfl)) (fun _ _ _ h => h) (Or.inl ⟨by rfl, ?_⟩) ?_ ?_
        rotate_left
        · intro w'
          go_simp
          with_reducible rfl
        rotate_left
        · simp only [Act.put, List.setIfInBounds_toArray, List.set_cons_zero, List.set_cons_succ, i64_w, i32_w]
          rfl
        refine pure_ (i := 5) (N := some 117) (v := ?_) (a' := ?_) #[true, true, true, false, true, true, false, false, false, false] rfl rfl (any_of HT_.out (by kernel_rfl)) (fun _ _ _ h => h) (Or.inl ⟨by rfl, ?_⟩) ?_ ?_
        rotate_left
        · intro w'
          go_simp
          with_reducible rfl
        rotate_left
        · simp only [Act.put, List.setIfInBounds_toArray, List.set_cons_zero, List.set_cons_succ, i64_w, i32_w]
          rfl
        refine take_ (i := 3) (N := some 115) (v := ?_) (a' := ?_) #[true, true, true, true, true, true, false, false, false, false] rfl rfl (take_ofW HT_.out HW_.out (by kernel_rfl)) (fun _ _ _ h => h) (Or.inl ⟨by rfl, ?_⟩) hHeld ?_ ?_
        rotate_left
        · rintro w' ⟨s0, s1⟩
          have y0 : w'.cell? ⟨g7, 3, none⟩ = some (.int .u32 (enc X.d)) := (blk_cell s0 3).trans rfl
          have y1 : w'.cell? ⟨g3, 3, none⟩ = some (.int .u32 (enc h.d)) := (blk_cell s1 3).trans rfl
          go_simp
          with_reducible rfl
        rotate_left
        · simp only [Act.put, List.setIfInBounds_toArray, List.set_cons_zero, List.set_cons_succ, i64_w, i32_w]
          rfl
        refine take_ (i := 6) (N := some 118) (v := ?_) (a' := ?_) #[true, true, true, true, true, true, true, false, false, false] rfl rfl (take_ofW HT_.out HW_.out (by kernel_rfl)) (fun _ _ _ h => h) (Or.inl ⟨by rfl, ?_⟩) hHeld ?_ ?_
        rotate_left
        · rintro w' ⟨s0, s1⟩
          have y0 : w'.cell? ⟨g7, 3, none⟩ = some (.int .u32 (enc X.d)) := (blk_cell s0 3).trans rfl
          have y1 : w'.cell? ⟨g3, 3, none⟩ = some (.int .u32 (enc h.d)) := (blk_cell s1 3).trans rfl
          go_simp
          with_reducible rfl
        rotate_left
        · simp only [Act.put, List.setIfInBounds_toArray, List.set_cons_zero, List.set_cons_succ, i64_w, i32_w]
          rfl
        refine pure_ (i := 7) (N := some 119) (v := ?_) (a' := ?_) #[true, true, true, true, true, true, true, true, false, false] rfl rfl (any_of HT_.out (by kernel_rfl)) (fun _ _ _ h => h) (Or.inl ⟨by rfl, ?_⟩) ?_ ?_
        rotate_left
        · intro w'
          go_simp
          with_reducible rfl
        rotate_left
        · simp only [Act.put, List.setIfInBounds_toArray, List.set_cons_zero, List.set_cons_succ, i64_w, i32_w]
          rfl
        refine pure_ (i := 8) (N := some 120) (v := ?_) (a' := ?_) #[true, true, true, true, true, true, true, true, true, false] rfl rfl (any_of HT_.out (by kernel_rfl)) (fun _ _ _ h => h) (Or.inl ⟨by rfl, ?_⟩) ?_ ?_
        rotate_left
        · intro w'
          go_simp
          with_reducible rfl
        rotate_left
        · simp only [Act.put, List.setIfInBounds_toArray, List.set_cons_zero, List.set_cons_succ, i64_w, i32_w]
          rfl
        refine last_ (i := 9) (N := none) #[true, true, true, true, true, true, true, true, true, true] rfl rfl (one_of HT_.out (by kernel_rfl)) (by decide) (fun K hK => ?_)
        have hz : wR.cell? ⟨g7, 3, none⟩ = some (.int .u32 (enc X.d)) := (blk_cell C7.out 3).trans rfl
        have hf := blk_frozen C7.out 3
        refine skip_ (w1 := ?_) (by rfl) rfl ?_ ?_
        rotate_left
        · go_simp
          rfl
        refine hK.out _ _ ?_
        clear hK K
        refine done_ (done_of HT_.out (by kernel_rfl)) ?_
        go_wp2
        go_roundw
        case rel => exact ⟨4, by omega, by go_num, ⟨blk_put C7.out 3 _ rfl⟩, ⟨blk_far C8.out (p := ⟨g7, 3, none⟩) N87.out _⟩, ⟨blk_far C5.out (p := ⟨g7, 3, none⟩) N57.out _⟩, ⟨blk_far C3.out (p := ⟨g7, 3, none⟩) N37.out _⟩, ⟨blk_far C6.out (p := ⟨g7, 3, none⟩) N67.out _⟩, ⟨below_set' D0.out G7.out⟩⟩
        case measure => simp [intOf]
      · have q8 : (((4 : Nat) : Int) < 8) = True := eq_true (by omega)
        go_upto_region 18 with (fail)
        refine start_ (n := 10) (S := fun W => W.heap[g7]? = some (.cells (vals (lst (pl X h 4))) 50 (0, 0)) ∧ W.heap[g3]? = some (.cells (vals (lst h)) 50 (0, 0))) (ds := [9]) #[false, false, false, false, false, false, false, false, false, false] (by kernel_rfl) rfl rfl ⟨blk_drew C7.out, blk_drew C3.out⟩ (fun hHeld => ?_); refine with_tabW blk.tab18 blk.bits18 (fun HT_ HW_ => ?_)
        have n_C7 := Aside0.mk (blk_drew C7.out)
        have n_C8 := Aside0.mk (blk_drew C8.out)
        have n_C5 := Aside0.mk (blk_drew C5.out)
        have n_C3 := Aside0.mk (blk_drew C3.out)
        have n_C6 := Aside0.mk (blk_drew C6.out)
        have n_D0 := Aside0.mk (below_drew1 D0.out)
        clear C7 C8 C5 C3 C6 D0
        have C7 := n_C7
        have C8 := n_C8
        have C5 := n_C5
        have C3 := n_C3
        have C6 := n_C6
        have D0 := n_D0
        clear n_C7 n_C8 n_C5 n_C3 n_C6 n_D0
        generalize World.drew _ = wR at C7 C8 C5 C3 C6 D0 hHeld ⊢
        refine pure_ (i := 0) (N := some 112) (v := ?_) (a' := ?_) #[true, false, false, false, false, false, false, false, false, false] rfl rfl (any_of HT_.out (by kernel_rfl)) (fun _ _ _ h => h) (Or.inl ⟨by rfl, ?_⟩) ?_ ?_
        rotate_left
        · intro w'
          go_simp
          with_reducible rfl
        rotate_left
        · simp only [Act.put, List.setIfInBounds_toArray, List.set_cons_zero, List.set_cons_succ, i64_w, i32_w]
          rfl
        refine pure_ (i := 1) (N := some 113) (v := ?_) (a' := ?_) #[true, true, false, false, false, false, false, false, false, false] rfl rfl (any_of HT_.out (by kernel_rfl)) (fun _ _ _ h => h) (Or.inl ⟨by rfl, ?_⟩) ?_ ?_
        rotate_left
        · intro w'
          go_simp
          with_reducible rfl
        rotate_left
        · simp only [Act.put, List.setIfInBounds_toArray, List.set_cons_zero, List.set_cons_succ, i64_w, i32_w]
          rfl
        refine pure_ (i := 2) (N := some 114) (v := ?_) (a' := ?_) #[true, true, true, false, false, false, false, false, false, false] rfl rfl (any_of HT_.out (by kernel_rfl)) (fun _ _ _ h => h) (Or.inl ⟨by rfl, ?_⟩) ?_ ?_
        rotate_left
        · intro w'
          go_simp
          with_reducible rfl
        rotate_left
        · simp only [Act.put, List.setIfInBounds_toArray, List.set_cons_zero, List.set_cons_succ, i64_w, i32_w]
          rfl
        refine pure_ (i := 4) (N := some 116) (v := ?_) (a' := ?_) #[true, true, true, false, true, false, false, false, false, false] rfl rfl (any_of HT_.out (by kernel_rfl)) (fun _ _ _ h => h) (Or.inl ⟨by rfl, ?_⟩) ?_ ?_
        rotate_left
        · intro w'
          go_simp
          with_reducible rfl
        rotate_left
        · simp only [Act.put, List.setIfInBounds_toArray, List.set_cons_zero, List.set_cons_succ, i64_w, i32_w]
          rfl
        refine pure_ (i := 5) (N := some 117) (v := ?_) (a' := ?_) #[true, true, true, false, true, true, false, false, false, false] rfl rfl (any_of HT_.out (by kernel_rfl)) (fun _ _ _ h => h) (Or.inl ⟨by rfl, ?_⟩) ?_ ?_
        rotate_left
        · intro w'
          go_simp
          with_reducible rfl
        rotate_left
        · simp only [Act.put, List.setIfInBounds_toArray, List.set_cons_zero, List.set_cons_succ, i64_w, i32_w]
          rfl
        refine take_ (i := 3) (N := some 115) (v := ?_) (a' := ?_) #[true, true, true, true, true, true, false, false, false, false] rfl rfl (take_ofW HT_.out HW_.out (by kernel_rfl)) (fun _ _ _ h => h) (Or.inl ⟨by rfl, ?_⟩) hHeld ?_ ?_
        rotate_left
        · rintro w' ⟨s0, s1⟩
          have y0 : w'.cell? ⟨g7, 4, none⟩ = some (.int .u32 (enc X.e)) := (blk_cell s0 4).trans rfl
          have y1 : w'.cell? ⟨g3, 4, none⟩ = some (.int .u32 (enc h.e)) := (blk_cell s1 4).trans rfl
          go_simp
          with_reducible rfl
        rotate_left
        · simp only [Act.put, List.setIfInBounds_toArray, List.set_cons_zero, List.set_cons_succ, i64_w, i32_w]
          rfl
        refine take_ (i := 6) (N := some 118) (v := ?_) (a' := ?_) #[true, true, true, true, true, true, true, false, false, false] rfl rfl (take_ofW HT_.out HW_.out (by kernel_rfl)) (fun _ _ _ h => h) (Or.inl ⟨by rfl, ?_⟩) hHeld ?_ ?_
        rotate_left
        · rintro w' ⟨s0, s1⟩
          have y0 : w'.cell? ⟨g7, 4, none⟩ = some (.int .u32 (enc X.e)) := (blk_cell s0 4).trans rfl
          have y1 : w'.cell? ⟨g3, 4, none⟩ = some (.int .u32 (enc h.e)) := (blk_cell s1 4).trans rfl
          go_simp
          with_reducible rfl
        rotate_left
        · simp only [Act.put, List.setIfInBounds_toArray, List.set_cons_zero, List.set_cons_succ, i64_w, i32_w]
          rfl
        refine pure_ (i := 7) (N := some 119) (v := ?_) (a' := ?_) #[true, true, true, true, true, true, true, true, false, false] rfl rfl (any_of HT_.out (by kernel_rfl)) (fun _ _ _ h => h) (Or.inl ⟨by rfl, ?_⟩) ?_ ?_
        rotate_left
        · intro w'
          go_simp
          with_reducible rfl
        rotate_left
        · simp only [Act.put, List.setIfInBounds_toArray, List.set_cons_zero, List.set_cons_succ, i64_w, i32_w]
          rfl
        refine pure_ (i := 8) (N := some 120) (v := ?_) (a' := ?_) #[true, true, true, true, true, true, true, true, true, false] rfl rfl (any_of HT_.out (by kernel_rfl)) (fun _ _ _ h => h) (Or.inl ⟨by rfl, ?_⟩) ?_ ?_
        rotate_left
        · intro w'
          go_simp
          with_reducible rfl
        rotate_left
        · simp only [Act.put, List.setIfInBounds_toArray, List.set_cons_zero, List.set_cons_succ, i64_w, i32_w]
          rfl
        refine last_ (i := 9) (N := none) #[true, true, true, true, true, true, true, true, true, true] rfl rfl (one_of HT_.out (by kernel_rfl)) (by decide) (fun K hK => ?_)
        have hz : wR.cell? ⟨g7, 4, none⟩ = some (.int .u32 (enc X.e)) := (blk_cell C7.out 4).trans rfl
        have hf := blk_frozen C7.out 4
        refine skip_ (w1 := ?_) (by rfl) rfl ?_ ?_
        rotate_left
        · go_simp
          rfl
        refine hK.out _ _ ?_
        clear hK K
        refine done_ (done_of HT_.out (by kernel_rfl)) ?_
        go_wp2
        go_roundw
        case rel => exact ⟨5, by omega, by go_num, ⟨blk_put C7.out 4 _ rfl⟩, ⟨blk_far C8.out (p := ⟨g7, 4, none⟩) N87.out _⟩, ⟨blk_far C5.out (p := ⟨g7, 4, none⟩) N57.out _⟩, ⟨blk_far C3.out (p := ⟨g7, 4, none⟩) N37.out _⟩, ⟨blk_far C6.out (p := ⟨g7, 4, none⟩) N67.out _⟩, ⟨below_set' D0.out G7.out⟩⟩
        case measure => simp [intOf]
      · have q8 : (((5 : Nat) : Int) < 8) = True := eq_true (by omega)
        go_upto_region 18 with (fail)
        refine start_ (n := 10) (S := fun W => W.heap[g7]? = some (.cells (vals (lst (pl X h 5))) 50 (0, 0)) ∧ W.heap[g3]? = some (.cells (vals (lst h)) 50 (0, 0))) (ds := [9]) #[false, false, false, false, false, false, false, false, false, false] (by kernel_rfl) rfl rfl ⟨blk_drew C7.out, blk_drew C3.out⟩ (fun hHeld => ?_); refine with_tabW blk.tab18 blk.bits18 (fun HT_ HW_ => ?_)
        have n_C7 := Aside0.mk (blk_drew C7.out)
        have n_C8 := Aside0.mk (blk_drew C8.out)
        have n_C5 := Aside0.mk (blk_drew C5.out)
        have n_C3 := Aside0.mk (blk_drew C3.out)
        have n_C6 := Aside0.mk (blk_drew C6.out)
        have n_D0 := Aside0.mk (below_drew1 D0.out)
        clear C7 C8 C5 C3 C6 D0
        have C7 := n_C7
        have C8 := n_C8
        have C5 := n_C5
        have C3 := n_C3
        have C6 := n_C6
        have D0 := n_D0
        clear n_C7 n_C8 n_C5 n_C3 n_C6 n_D0
        generalize World.drew _ = wR at C7 C8 C5 C3 C6 D0 hHeld ⊢
        refine pure_ (i := 0) (N := some 112) (v := ?_) (a' := ?_) #[true, false, false, false, false, false, false, false, false, false] rfl rfl (any_of HT_.out (by kernel_rfl)) (fun _ _ _ h => h) (Or.inl ⟨by rfl, ?_⟩) ?_ ?_
        rotate_left
        · intro w'
          go_simp
          with_reducible rfl
        rotate_left
        · simp only [Act.put, List.setIfInBounds_toArray, List.set_cons_zero, List.set_cons_succ, i64_w, i32_w]
          rfl
        refine pure_ (i := 1) (N := some 113) (v := ?_) (a' := ?_) #[true, true, false, false, false, false, false, false, false, false] rfl rfl (any_of HT_.out (by kernel_rfl)) (fun _ _ _ h => h) (Or.inl ⟨by rfl, ?_⟩) ?_ ?_
        rotate_left
        · intro w'
          go_simp
          with_reducible rfl
        rotate_left
        · simp only [Act.put, List.setIfInBounds_toArray, List.set_cons_zero, List.set_cons_succ, i64_w, i32_w]
          rfl
        refine pure_ (i := 2) (N := some 114) (v := ?_) (a' := ?_) #[true, true, true, false, false, false, false, false, false, false] rfl rfl (any_of HT_.out (by kernel_rfl)) (fun _ _ _ h => h) (Or.inl ⟨by rfl, ?_⟩) ?_ ?_
        rotate_left
        · intro w'
          go_simp
          with_reducible rfl
        rotate_left
        · simp only [Act.put, List.setIfInBounds_toArray, List.set_cons_zero, List.set_cons_succ, i64_w, i32_w]
          rfl
        refine pure_ (i := 4) (N := some 116) (v := ?_) (a' := ?_) #[true, true, true, false, true, false, false, false, false, false] rfl rfl (any_of HT_.out (by kernel_rfl)) (fun _ _ _ h => h) (Or.inl ⟨by rfl, ?_⟩) ?_ ?_
        rotate_left
        · intro w'
          go_simp
          with_reducible rfl
        rotate_left
        · simp only [Act.put, List.setIfInBounds_toArray, List.set_cons_zero, List.set_cons_succ, i64_w, i32_w]
          rfl
        refine pure_ (i := 5) (N := some 117) (v := ?_) (a' := ?_) #[true, true, true, false, true, true, false, false, false, false] rfl rfl (any_of HT_.out (by kernel_rfl)) (fun _ _ _ h => h) (Or.inl ⟨by rfl, ?_⟩) ?_ ?_
        rotate_left
        · intro w'
          go_simp
          with_reducible rfl
        rotate_left
        · simp only [Act.put, List.setIfInBounds_toArray, List.set_cons_zero, List.set_cons_succ, i64_w, i32_w]
          rfl
        refine take_ (i := 3) (N := some 115) (v := ?_) (a' := ?_) #[true, true, true, true, true, true, false, false, false, false] rfl rfl (take_ofW HT_.out HW_.out (by kernel_rfl)) (fun _ _ _ h => h) (Or.inl ⟨by rfl, ?_⟩) hHeld ?_ ?_
        rotate_left
        · rintro w' ⟨s0, s1⟩
          have y0 : w'.cell? ⟨g7, 5, none⟩ = some (.int .u32 (enc X.f)) := (blk_cell s0 5).trans rfl
          have y1 : w'.cell? ⟨g3, 5, none⟩ = some (.int .u32 (enc h.f)) := (blk_cell s1 5).trans rfl
          go_simp
          with_reducible rfl
        rotate_left
        · simp only [Act.put, List.setIfInBounds_toArray, List.set_cons_zero, List.set_cons_succ, i64_w, i32_w]
          rfl
        refine take_ (i := 6) (N := some 118) (v := ?_) (a' := ?_) #[true, true, true, true, true, true, true, false, false, false] rfl rfl (take_ofW HT_.out HW_.out (by kernel_rfl)) (fun _ _ _ h => h) (Or.inl ⟨by rfl, ?_⟩) hHeld ?_ ?_
        rotate_left
        · rintro w' ⟨s0, s1⟩
          have y0 : w'.cell? ⟨g7, 5, none⟩ = some (.int .u32 (enc X.f)) := (blk_cell s0 5).trans rfl
          have y1 : w'.cell? ⟨g3, 5, none⟩ = some (.int .u32 (enc h.f)) := (blk_cell s1 5).trans rfl
          go_simp
          with_reducible rfl
        rotate_left
        · simp only [Act.put, List.setIfInBounds_toArray, List.set_cons_zero, List.set_cons_succ, i64_w, i32_w]
          rfl
        refine pure_ (i := 7) (N := some 119) (v := ?_) (a' := ?_) #[true, true, true, true, true, true, true, true, false, false] rfl rfl (any_of HT_.out (by kernel_rfl)) (fun _ _ _ h => h) (Or.inl ⟨by rfl, ?_⟩) ?_ ?_
        rotate_left
        · intro w'
          go_simp
          with_reducible rfl
        rotate_left
        · simp only [Act.put, List.setIfInBounds_toArray, List.set_cons_zero, List.set_cons_succ, i64_w, i32_w]
          rfl
        refine pure_ (i := 8) (N := some 120) (v := ?_) (a' := ?_) #[true, true, true, true, true, true, true, true, true, false] rfl rfl (any_of HT_.out (by kernel_rfl)) (fun _ _ _ h => h) (Or.inl ⟨by rfl, ?_⟩) ?_ ?_
        rotate_left
        · intro w'
          go_simp
          with_reducible rfl
        rotate_left
        · simp only [Act.put, List.setIfInBounds_toArray, List.set_cons_zero, List.set_cons_succ, i64_w, i32_w]
          rfl
        refine last_ (i := 9) (N := none) #[true, true, true, true, true, true, true, true, true, true] rfl rfl (one_of HT_.out (by kernel_rfl)) (by decide) (fun K hK => ?_)
        have hz : wR.cell? ⟨g7, 5, none⟩ = some (.int .u32 (enc X.f)) := (blk_cell C7.out 5).trans rfl
        have hf := blk_frozen C7.out 5
        refine skip_ (w1 := ?_) (by rfl) rfl ?_ ?_
        rotate_left
        · go_simp
          rfl
        refine hK.out _ _ ?_
        clear hK K
        refine done_ (done_of HT_.out (by kernel_rfl)) ?_
        go_wp2
        go_roundw
        case rel => exact ⟨6, by omega, by go_num, ⟨blk_put C7.out 5 _ rfl⟩, ⟨blk_far C8.out (p := ⟨g7, 5, none⟩) N87.out _⟩, ⟨blk_far C5.out (p := ⟨g7, 5, none⟩) N57.out _⟩, ⟨blk_far C3.out (p := ⟨g7, 5, none⟩) N37.out _⟩, ⟨blk_far C6.out (p := ⟨g7, 5, none⟩) N67.out _⟩, ⟨below_set' D0.out G7.out⟩⟩
        case measure => simp [intOf]
      · have q8 : (((6 : Nat) : Int) < 8) = True := eq_true (by omega)
        go_upto_region 18 with (fail)
        refine start_ (n := 10) (S := fun W => W.heap[g7]? = some (.cells (vals (lst (pl X h 6))) 50 (0, 0)) ∧ W.heap[g3]? = some (.cells (vals (lst h)) 50 (0, 0))) (ds := [9]) #[false, false, false, false, false, false, false, false, false, false] (by kernel_rfl) rfl rfl ⟨blk_drew C7.out, blk_drew C3.out⟩ (fun hHeld => ?_); refine with_tabW blk.tab18 blk.bits18 (fun HT_ HW_ => ?_)
        have n_C7 := Aside0.mk (blk_drew C7.out)
        have n_C8 := Aside0.mk (blk_drew C8.out)
        have n_C5 := Aside0.mk (blk_drew C5.out)
        have n_C3 := Aside0.mk (blk_drew C3.out)
        have n_C6 := Aside0.mk (blk_drew C6.out)
        have n_D0 := Aside0.mk (below_drew1 D0.out)
        clear C7 C8 C5 C3 C6 D0
        have C7 := n_C7
        have C8 := n_C8
        have C5 := n_C5
        have C3 := n_C3
        have C6 := n_C6
        have D0 := n_D0
        clear n_C7 n_C8 n_C5 n_C3 n_C6 n_D0
        generalize World.drew _ = wR at C7 C8 C5 C3 C6 D0 hHeld ⊢
        refine pure_ (i := 0) (N := some 112) (v := ?_) (a' := ?_) #[true, false, false, false, false, false, false, false, false, false] rfl rfl (any_of HT_.out (by kernel_rfl)) (fun _ _ _ h => h) (Or.inl ⟨by rfl, ?_⟩) ?_ ?_
        rotate_left
        · intro w'
          go_simp
          with_reducible rfl
        rotate_left
        · simp only [Act.put, List.setIfInBounds_toArray, List.set_cons_zero, List.set_cons_succ, i64_w, i32_w]
          rfl
        refine pure_ (i := 1) (N := some 113) (v := ?_) (a' := ?_) #[true, true, false, false, false, false, false, false, false, false] rfl rfl (any_of HT_.out (by kernel_rfl)) (fun _ _ _ h => h) (Or.inl ⟨by rfl, ?_⟩) ?_ ?_
        rotate_left
        · intro w'
          go_simp
          with_reducible rfl
        rotate_left
        · simp only [Act.put, List.setIfInBounds_toArray, List.set_cons_zero, List.set_cons_succ, i64_w, i32_w]
          rfl
        refine pure_ (i := 2) (N := some 114) (v := ?_) (a' := ?_) #[true, true, true, false, false, false, false, false, false, false] rfl rfl (any_of HT_.out (by kernel_rfl)) (fun _ _ _ h => h) (Or.inl ⟨by rfl, ?_⟩) ?_ ?_
        rotate_left
        · intro w'
          go_simp
          with_reducible rfl
        rotate_left
        · simp only [Act.put, List.setIfInBounds_toArray, List.set_cons_zero, List.set_cons_succ, i64_w, i32_w]
          rfl
        refine pure_ (i := 4) (N := some 116) (v := ?_) (a' := ?_) #[true, true, true, false, true, false, false, false, false, false] rfl rfl (any_of HT_.out (by kernel_rfl)) (fun _ _ _ h => h) (Or.inl ⟨by rfl, ?_⟩) ?_ ?_
        rotate_left
        · intro w'
          go_simp
          with_reducible rfl
        rotate_left
        · simp only [Act.put, List.setIfInBounds_toArray, List.set_cons_zero, List.set_cons_succ, i64_w, i32_w]
          rfl
        refine pure_ (i := 5) (N := some 117) (v := ?_) (a' := ?_) #[true, true, true, false, true, true, false, false, false, false] rfl rfl (any_of HT_.out (by kernel_rfl)) (fun _ _ _ h => h) (Or.inl ⟨by rfl, ?_⟩) ?_ ?_
        rotate_left
        · intro w'
          go_simp
          with_reducible rfl
        rotate_left
        · simp only [Act.put, List.setIfInBounds_toArray, List.set_cons_zero, List.set_cons_succ, i64_w, i32_w]
          rfl
        refine take_ (i := 3) (N := some 115) (v := ?_) (a' := ?_) #[true, true, true, true, true, true, false, false, false, false] rfl rfl (take_ofW HT_.out HW_.out (by kernel_rfl)) (fun _ _ _ h => h) (Or.inl ⟨by rfl, ?_⟩) hHeld ?_ ?_
        rotate_left
        · rintro w' ⟨s0, s1⟩
          have y0 : w'.cell? ⟨g7, 6, none⟩ = some (.int .u32 (enc X.g)) := (blk_cell s0 6).trans rfl
          have y1 : w'.cell? ⟨g3, 6, none⟩ = some (.int .u32 (enc h.g)) := (blk_cell s1 6).trans rfl
          go_simp
          with_reducible rfl
        rotate_left
        · simp only [Act.put, List.setIfInBounds_toArray, List.set_cons_zero, List.set_cons_succ, i64_w, i32_w]
          rfl
        refine take_ (i := 6) (N := some 118) (v := ?_) (a' := ?_) #[true, true, true, true, true, true, true, false, false, false] rfl rfl (take_ofW HT_.out HW_.out (by kernel_rfl)) (fun _ _ _ h => h) (Or.inl ⟨by rfl, ?_⟩) hHeld ?_ ?_
        rotate_left
        · rintro w' ⟨s0, s1⟩
          have y0 : w'.cell? ⟨g7, 6, none⟩ = some (.int .u32 (enc X.g)) := (blk_cell s0 6).trans rfl
          have y1 : w'.cell? ⟨g3, 6, none⟩ = some (.int .u32 (enc h.g)) := (blk_cell s1 6).trans rfl
          go_simp
          with_reducible rfl
        rotate_left
        · simp only [Act.put, List.setIfInBounds_toArray, List.set_cons_zero, List.set_cons_succ, i64_w, i32_w]
          rfl
        refine pure_ (i := 7) (N := some 119) (v := ?_) (a' := ?_) #[true, true, true, true, true, true, true, true, false, false] rfl rfl (any_of HT_.out (by kernel_rfl)) (fun _ _ _ h => h) (Or.inl ⟨by rfl, ?_⟩) ?_ ?_
        rotate_left
        · intro w'
          go_simp
          with_reducible rfl
        rotate_left
        · simp only [Act.put, List.setIfInBounds_toArray, List.set_cons_zero, List.set_cons_succ, i64_w, i32_w]
          rfl
        refine pure_ (i := 8) (N := some 120) (v := ?_) (a' := ?_) #[true, true, true, true, true, true, true, true, true, false] rfl rfl (any_of HT_.out (by kernel_rfl)) (fun _ _ _ h => h) (Or.inl ⟨by rfl, ?_⟩) ?_ ?_
        rotate_left
        · intro w'
          go_simp
          with_reducible rfl
        rotate_left
        · simp only [Act.put, List.setIfInBounds_toArray, List.set_cons_zero, List.set_cons_succ, i64_w, i32_w]
          rfl
        refine last_ (i := 9) (N := none) #[true, true, true, true, true, true, true, true, true, true] rfl rfl (one_of HT_.out (by kernel_rfl)) (by decide) (fun K hK => ?_)
        have hz : wR.cell? ⟨g7, 6, none⟩ = some (.int .u32 (enc X.g)) := (blk_cell C7.out 6).trans rfl
        have hf := blk_frozen C7.out 6
        refine skip_ (w1 := ?_) (by rfl) rfl ?_ ?_
        rotate_left
        · go_simp
          rfl
        refine hK.out _ _ ?_
        clear hK K
        refine done_ (done_of HT_.out (by kernel_rfl)) ?_
        go_wp2
        go_roundw
        case rel => exact ⟨7, by omega, by go_num, ⟨blk_put C7.out 6 _ rfl⟩, ⟨blk_far C8.out (p := ⟨g7, 6, none⟩) N87.out _⟩, ⟨blk_far C5.out (p := ⟨g7, 6, none⟩) N57.out _⟩, ⟨blk_far C3.out (p := ⟨g7, 6, none⟩) N37.out _⟩, ⟨blk_far C6.out (p := ⟨g7, 6, none⟩) N67.out _⟩, ⟨below_set' D0.out G7.out⟩⟩
        case measure => simp [intOf]
      · have q8 : (((7 : Nat) : Int) < 8) = True := eq_true (by omega)
        go_upto_region 18 with (fail)
        refine start_ (n := 10) (S := fun W => W.heap[g7]? = some (.cells (vals (lst (pl X h 7))) 50 (0, 0)) ∧ W.heap[g3]? = some (.cells (vals (lst h)) 50 (0, 0))) (ds := [9]) #[false, false, false, false, false, false, false, false, false, false] (by kernel_rfl) rfl rfl ⟨blk_drew C7.out, blk_drew C3.out⟩ (fun hHeld => ?_); refine with_tabW blk.tab18 blk.bits18 (fun HT_ HW_ => ?_)
        have n_C7 := Aside0.mk (blk_drew C7.out)
        have n_C8 := Aside0.mk (blk_drew C8.out)
        have n_C5 := Aside0.mk (blk_drew C5.out)
        have n_C3 := Aside0.mk (blk_drew C3.out)
        have n_C6 := Aside0.mk (blk_drew C6.out)
        have n_D0 := Aside0.mk (below_drew1 D0.out)
        clear C7 C8 C5 C3 C6 D0
        have C7 := n_C7
        have C8 := n_C8
        have C5 := n_C5
        have C3 := n_C3
        have C6 := n_C6
        have D0 := n_D0
        clear n_C7 n_C8 n_C5 n_C3 n_C6 n_D0
        generalize World.drew _ = wR at C7 C8 C5 C3 C6 D0 hHeld ⊢
        refine pure_ (i := 0) (N := some 112) (v := ?_) (a' := ?_) #[true, false, false, false, false, false, false, false, false, false] rfl rfl (any_of HT_.out (by kernel_rfl)) (fun _ _ _ h => h) (Or.inl ⟨by rfl, ?_⟩) ?_ ?_
        rotate_left
        · intro w'
          go_simp
          with_reducible rfl
        rotate_left
        · simp only [Act.put, List.setIfInBounds_toArray, List.set_cons_zero, List.set_cons_succ, i64_w, i32_w]
          rfl
        refine pure_ (i := 1) (N := some 113) (v := ?_) (a' := ?_) #[true, true, false, false, false, false, false, false, false, false] rfl rfl (any_of HT_.out (by kernel_rfl)) (fun _ _ _ h => h) (Or.inl ⟨by rfl, ?_⟩) ?_ ?_
        rotate_left
        · intro w'
          go_simp
          with_reducible rfl
        rotate_left
        · simp only [Act.put, List.setIfInBounds_toArray, List.set_cons_zero, List.set_cons_succ, i64_w, i32_w]
          rfl
        refine pure_ (i := 2) (N := some 114) (v := ?_) (a' := ?_) #[true, true, true, false, false, false, false, false, false, false] rfl rfl (any_of HT_.out (by kernel_rfl)) (fun _ _ _ h => h) (Or.inl ⟨by rfl, ?_⟩) ?_ ?_
        rotate_left
        · intro w'
          go_simp
          with_reducible rfl
        rotate_left
        · simp only [Act.put, List.setIfInBounds_toArray, List.set_cons_zero, List.set_cons_succ, i64_w, i32_w]
          rfl
        refine pure_ (i := 4) (N := some 116) (v := ?_) (a' := ?_) #[true, true, true, false, true, false, false, false, false, false] rfl rfl (any_of HT_.out (by kernel_rfl)) (fun _ _ _ h => h) (Or.inl ⟨by rfl, ?_⟩) ?_ ?_
        rotate_left
        · intro w'
          go_simp
          with_reducible rfl
        rotate_left
        · simp only [Act.put, List.setIfInBounds_toArray, List.set_cons_zero, List.set_cons_succ, i64_w, i32_w]
          rfl
        refine pure_ (i := 5) (N := some 117) (v := ?_) (a' := ?_) #[true, true, true, false, true, true, false, false, false, false] rfl rfl (any_of HT_.out (by kernel_rfl)) (fun _ _ _ h => h) (Or.inl ⟨by rfl, ?_⟩) ?_ ?_
        rotate_left
        · intro w'
          go_simp
          with_reducible rfl
        rotate_left
        · simp only [Act.put, List.setIfInBounds_toArray, List.set_cons_zero, List.set_cons_succ, i64_w, i32_w]
          rfl
        refine take_ (i := 3) (N := some 115) (v := ?_) (a' := ?_) #[true, true, true, true, true, true, false, false, false, false] rfl rfl (take_ofW HT_.out HW_.out (by kernel_rfl)) (fun _ _ _ h => h) (Or.inl ⟨by rfl, ?_⟩) hHeld ?_ ?_
        rotate_left
        · rintro w' ⟨s0, s1⟩
          have y0 : w'.cell? ⟨g7, 7, none⟩ = some (.int .u32 (enc X.h)) := (blk_cell s0 7).trans rfl
          have y1 : w'.cell? ⟨g3, 7, none⟩ = some (.int .u32 (enc h.h)) := (blk_cell s1 7).trans rfl
          go_simp
          with_reducible rfl
        rotate_left
        · simp only [Act.put, List.setIfInBounds_toArray, List.set_cons_zero, List.set_cons_succ, i64_w, i32_w]
          rfl
        refine take_ (i := 6) (N := some 118) (v := ?_) (a' := ?_) #[true, true, true, true, true, true, true, false, false, false] rfl rfl (take_ofW HT_.out HW_.out (by kernel_rfl)) (fun _ _ _ h => h) (Or.inl ⟨by rfl, ?_⟩) hHeld ?_ ?_
        rotate_left
        · rintro w' ⟨s0, s1⟩
          have y0 : w'.cell? ⟨g7, 7, none⟩ = some (.int .u32 (enc X.h)) := (blk_cell s0 7).trans rfl
          have y1 : w'.cell? ⟨g3, 7, none⟩ = some (.int .u32 (enc h.h)) := (blk_cell s1 7).trans rfl
          go_simp
          with_reducible rfl
        rotate_left
        · simp only [Act.put, List.setIfInBounds_toArray, List.set_cons_zero, List.set_cons_succ, i64_w, i32_w]
          rfl
        refine pure_ (i := 7) (N := some 119) (v := ?_) (a' := ?_) #[true, true, true, true, true, true, true, true, false, false] rfl rfl (any_of HT_.out (by kernel_rfl)) (fun _ _ _ h => h) (Or.inl ⟨by rfl, ?_⟩) ?_ ?_
        rotate_left
        · intro w'
          go_simp
          with_reducible rfl
        rotate_left
        · simp only [Act.put, List.setIfInBounds_toArray, List.set_cons_zero, List.set_cons_succ, i64_w, i32_w]
          rfl
        refine pure_ (i := 8) (N := some 120) (v := ?_) (a' := ?_) #[true, true, true, true, true, true, true, true, true, false] rfl rfl (any_of HT_.out (by kernel_rfl)) (fun _ _ _ h => h) (Or.inl ⟨by rfl, ?_⟩) ?_ ?_
        rotate_left
        · intro w'
          go_simp
          with_reducible rfl
        rotate_left
        · simp only [Act.put, List.setIfInBounds_toArray, List.set_cons_zero, List.set_cons_succ, i64_w, i32_w]
          rfl
        refine last_ (i := 9) (N := none) #[true, true, true, true, true, true, true, true, true, true] rfl rfl (one_of HT_.out (by kernel_rfl)) (by decide) (fun K hK => ?_)
        have hz : wR.cell? ⟨g7, 7, none⟩ = some (.int .u32 (enc X.h)) := (blk_cell C7.out 7).trans rfl
        have hf := blk_frozen C7.out 7
        refine skip_ (w1 := ?_) (by rfl) rfl ?_ ?_
        rotate_left
        · go_simp
          rfl
        refine hK.out _ _ ?_
        clear hK K
        refine done_ (done_of HT_.out (by kernel_rfl)) ?_
        go_wp2
        go_roundw
        case rel => exact ⟨8, by omega, by go_num, ⟨blk_put C7.out 7 _ rfl⟩, ⟨blk_far C8.out (p := ⟨g7, 7, none⟩) N87.out _⟩, ⟨blk_far C5.out (p := ⟨g7, 7, none⟩) N57.out _⟩, ⟨blk_far C3.out (p := ⟨g7, 7, none⟩) N37.out _⟩, ⟨blk_far C6.out (p := ⟨g7, 7, none⟩) N67.out _⟩, ⟨below_set' D0.out G7.out⟩⟩
        case measure => simp [intOf]
      · have q8 : (((8 : Nat) : Int) < 8) = False := eq_false (by omega)
        have hv : (vals (lst (pl X h 8))).size = 8 := rfl
        go_wp2_with (first
          | ((with_reducible refine gate_dst (N := 121) rfl ?_); refine wpList_load_row rfl 50 (.tmp 7) rfl g7 rfl 50 (vals (lst (pl X h 8))) (0, 0) _ C7.out Try.underlying50 rfl (by rw [hv]; exact i46) ?_)
          | ((with_reducible refine gate_store rfl ?_); refine wpList_store_row rfl 50 (.tmp 6) (.tmp 121) rfl g6 (vals (lst (pl X h 8))) rfl rfl 50 _ C6.out (by rw [hv]; exact i46) rfl (vals_one _) ?_))
        refine bodyPost_ret (results_cell_row (fn := Try.f33) rfl _ _ g6 50 (vals (lst (pl X h 8))) (0, 0) _ rfl (setRow_heap _ g6 _ _ 50 _ C6.out) Try.underlying50 rfl (by rw [hv]; exact i46)) rfl ?_
        refine ⟨?_, below_setRow D0.out G6.out _⟩
        unfold turn
        rw [← HWS.out, ← HX.out]; rfl
end Go.Proofs.Ythpnppfpmhlkaaa.Sha
