/- Chapter 2: hash.turned, walked by hand. -/
import Derived.Test.YthpnppfpmhlkaaaShaN
namespace Go.Proofs.Ythpnppfpmhlkaaa.Sha
open Go.RowKit Go.Proofs.Ythpnppfpmhlkaaa.X Go.Proofs.YthpnppfpmhlkaaaW.PrintWords Go.Proofs.YthpnppfpmhlkaaaW.PrintLast Go.Proofs.YthpnppfpmhlkaaaW.PrintMore
set_option linter.unusedVariables false
set_option linter.unusedSimpArgs false
theorem not_raw (x : BitVec 32) : Go.bits .xor .u32 (if IntKind.u32.signed = true then -1 else IntKind.u32.max) (enc x) = enc (~~~x) := by
  have e : (if IntKind.u32.signed = true then (-1 : Int) else IntKind.u32.max) = 4294967295 := by decide
  rw [e, not_enc]
attribute [local go_sem] xor_enc and_enc or_enc add_enc not_enc wrap_of_enc shl8 shl16 shl24 shr3 shr10 not_raw

/-- The eight numbers. -/
structure S8 where
  (a b c d e f g h : BitVec 32)
def lst (s : S8) : List (BitVec 32) := [s.a, s.b, s.c, s.d, s.e, s.f, s.g, s.h]
def bs1 (e : BitVec 32) : BitVec 32 := rr 6 e ^^^ rr 11 e ^^^ rr 25 e
def bs0 (a : BitVec 32) : BitVec 32 := rr 2 a ^^^ rr 13 a ^^^ rr 22 a
def tt1 (s : S8) (k w : BitVec 32) : BitVec 32 := s.h + bs1 s.e + (s.e &&& s.f ^^^ ~~~s.e &&& s.g) + k + w
def tt2 (s : S8) : BitVec 32 := bs0 s.a + (s.a &&& s.b ^^^ s.a &&& s.c ^^^ s.b &&& s.c)
def rnd (s : S8) (k w : BitVec 32) : S8 := ⟨tt1 s k w + tt2 s, s.a, s.b, s.c, s.d + tt1 s k w, s.e, s.f, s.g⟩
def rnds (ks ws : List (BitVec 32)) (s : S8) : Nat → S8
  | 0 => s
  | n + 1 => rnd (rnds ks ws s n) (ks.getD n 0) (ws.getD n 0)
def plus (s t : S8) : S8 := ⟨s.a + t.a, s.b + t.b, s.c + t.c, s.d + t.d, s.e + t.e, s.f + t.f, s.g + t.g, s.h + t.h⟩
def pl (x t : S8) (i : Nat) : S8 := ⟨if 0 < i then x.a + t.a else x.a, if 1 < i then x.b + t.b else x.b, if 2 < i then x.c + t.c else x.c, if 3 < i then x.d + t.d else x.d, if 4 < i then x.e + t.e else x.e, if 5 < i then x.f + t.f else x.f, if 6 < i then x.g + t.g else x.g, if 7 < i then x.h + t.h else x.h⟩
def turn (ks : List (BitVec 32)) (h : S8) (b : List UInt8) : S8 := plus (rnds ks (wl b 64) h 64) h
theorem run_index47 (cs : Array Value) (n : Nat) (hn : n < 64) (v : Value) (hv : cs[n]? = some v) (W : World) : (Instr.index 51 (.agg cs) (.int .i64 n)).run Try.prog W = .ok v W := by
  simp [Instr.index, run_underlying Try.underlying51, asIntOf, go_sem, hn, hv]
theorem vals_one (ws : List (BitVec 32)) : (vals ws).all (·.oneCell') = true := by
  have := row_one ws.length ws
  rwa [row_full _ _ rfl] at this
theorem vals_at (ws : List (BitVec 32)) (i : Nat) (h : i < ws.length) : (vals ws)[i]? = some (.int .u32 (enc (ws.getD i 0))) := by
  have := row_at ws.length ws i h
  rwa [row_full _ _ rfl] at this
def tur.T5 : Bool × List (List Nat × List Nat) := (true, [([], []), ([0], [0]), ([], []), ([2], [2]), ([1, 0, 1], [1]), ([3, 4, 0, 1, 2, 3, 4], [3])])
def tur.B5 : List Nat := [0, 1, 0, 4, 3, 31]
theorem tur.tab5 : rtab .any (opsOf Try.f41 5) = tur.T5 := by kernel_rfl
theorem tur.bits5 : waitsOk tur.T5.2 tur.B5 = true := by kernel_rfl
def tur.T8 : Bool × List (List Nat × List Nat) := (true, [([], []), ([0], [0]), ([], []), ([1, 2], [1, 2]), ([], []), ([], []), ([5], [5]), ([4, 6], [4, 6]), ([], []), ([8], [8]), ([], []), ([10], [10]), ([9, 11], [9, 11]), ([7, 12], [7, 12]), ([3, 13], [3, 13]), ([], []), ([], []), ([15], [15]), ([17, 16], [16, 17]), ([18], [18]), ([14, 19], [14, 19]), ([], []), ([20, 21], [20, 21]), ([22, 0, 1, 2, 3, 4, 5, 6, 7, 8, 9, 10, 11, 12, 13, 14, 15, 16, 17, 18, 19, 20, 21, 22], [22])])
def tur.B8 : List Nat := [0, 1, 0, 7, 0, 0, 32, 112, 0, 256, 0, 1024, 3840, 8176, 16383, 0, 0, 32768, 229376, 491520, 1048575, 0, 4194303, 8388607]
theorem tur.tab8 : rtab .any (opsOf Try.f41 8) = tur.T8 := by kernel_rfl
theorem tur.bits8 : waitsOk tur.T8.2 tur.B8 = true := by kernel_rfl
def tur.T15 : Bool × List (List Nat × List Nat) := (true, [([], []), ([0], [0]), ([1], [1]), ([], []), ([3], [3]), ([4], [4]), ([2, 5], [2, 5]), ([0, 0, 1, 2, 3, 4, 5, 6], [0]), ([7, 6, 0, 1, 2, 3, 4, 5, 6], [6, 7])])
def tur.B15 : List Nat := [0, 1, 3, 0, 8, 24, 63, 127, 255]
theorem tur.tab15 : rtab .any (opsOf Try.f41 15) = tur.T15 := by kernel_rfl
theorem tur.bits15 : waitsOk tur.T15.2 tur.B15 = true := by kernel_rfl
set_option maxHeartbeats 8000000 in
set_option maxRecDepth 100000 in
theorem turned_calls (h : S8) (b : ByteArray) (gk : Nat) (ks : List (BitVec 32)) (w : World) (hb : 64 ≤ b.size) (hks : ks.length = 64) (hk : w.heap[gk]? = some (.cells (vals ks) 51 (0, 0))) :
    Calls Try.prog 41 #[.agg (vals (lst h)), .string b, .pointer (some ⟨gk, 0, none⟩)] w fun e w' => e = .returned (.agg (vals (lst (turn ks h b.data.toList)))) ∧ Below w.heap.size w w' := by
  have HK := Aside0.mk hk
  clear hk
  go_enter Try.func41, Try.ntmps41
  have i46 : (Try.prog.info? 50).map (·.size) = some 8 := by kernel_rfl
  go_upto_region 1 with (fail)
  change Code.wp _ _ _ _ ((w.alloc (.cells (vals (lst h)) 50)).alloc (.cells (row 8 []) 50))
  have C3 : Aside0 (((w.alloc (.cells (vals (lst h)) 50)).alloc (.cells (row 8 []) 50)).heap[w.heap.size]? = some (.cells (vals (lst h)) 50 (0, 0))) := ⟨blk_below (blk_new w (.cells (vals (lst h)) 50)) (below_alloc (Below.refl _ _) _)⟩
  have C6 : Aside0 (((w.alloc (.cells (vals (lst h)) 50)).alloc (.cells (row 8 []) 50)).heap[w.heap.size + 1]? = some (.cells (row 8 []) 50 (0, 0))) := ⟨alloc_second _ _ _⟩
  have D0 := Aside0.mk (below_alloc (below_alloc (Below.refl w.heap.size w) (.cells (vals (lst h)) 50)) (.cells (row 8 []) 50))
  have CK := Aside0.mk (blk_below HK.out D0.out)
  generalize (w.alloc (.cells (vals (lst h)) 50)).alloc (.cells (row 8 []) 50) = w1 at C3 C6 D0 CK ⊢
  obtain ⟨g3, hg3⟩ : ∃ g, g = w.heap.size := ⟨_, rfl⟩
  obtain ⟨g6, hg6⟩ : ∃ g, g = w.heap.size + 1 := ⟨_, rfl⟩
  have P3 : (Value.pointer (some ⟨w.heap.size, 0, none⟩)) = .pointer (some ⟨g3, 0, none⟩) := by rw [hg3]
  have P6 : (Value.pointer (some ⟨w.heap.size + 1, 0, none⟩)) = .pointer (some ⟨g6, 0, none⟩) := by rw [hg6]
  rw [P3, P6]
  rw [← hg3] at C3
  rw [← hg6] at C6
  have G3 : Aside0 (w.heap.size ≤ g3) := ⟨by omega⟩
  have G6 : Aside0 (w.heap.size ≤ g6) := ⟨by omega⟩
  have N36 : Aside0 (g3 ≠ g6) := ⟨by omega⟩
  have NK3 : Aside0 (gk ≠ g3) := ⟨by have := blk_lt HK.out; omega⟩
  have NK6 : Aside0 (gk ≠ g6) := ⟨by have := blk_lt HK.out; omega⟩
  clear P3 P6 hg3 hg6
  have hv8 : (vals (lst h)).size = 8 := rfl
  have hr8 : (row 8 []).size = 8 := rfl
  go_wp2_with (first
    | ((with_reducible refine gate_dst (N := 17) rfl ?_); refine wpList_load_row rfl 50 (.tmp 3) rfl g3 rfl 50 (vals (lst h)) (0, 0) _ C3.out Try.underlying50 rfl (by rw [hv8]; exact i46) ?_)
    | ((with_reducible refine gate_store rfl ?_); refine wpList_store_row rfl 50 (.tmp 7) (.tmp 17) rfl w1.heap.size (vals (lst h)) rfl rfl 50 _ (blk_new _ _) (by rw [hv8]; exact i46) rfl (vals_one _) ?_)
    | (go_at_call 43; (with_reducible refine (numbers_calls b _ hb).mono ?_); rintro e w2 ⟨rfl, hd⟩; have hq := below_setRow (below_alloc (Below.refl w1.heap.size w1) (.cells (row 8 []) 50)) (Nat.le_refl _) (vals (lst h)); have C7 := Aside0.mk (blk_below (setRow_heap _ w1.heap.size _ (vals (lst h)) _ _ (blk_new w1 (.cells (row 8 []) 50))) hd); have n_C3 := Aside0.mk (blk_below (blk_below C3.out hq) hd); have n_C6 := Aside0.mk (blk_below (blk_below C6.out hq) hd); have n_CK := Aside0.mk (blk_below (blk_below CK.out hq) hd); have n_D0 := Aside0.mk (below_step (below_setRow (below_alloc D0.out (.cells (row 8 []) 50)) D0.out.size (vals (lst h))) hd); have N37 : Aside0 (g3 ≠ w1.heap.size) := ⟨by have := blk_lt C3.out; omega⟩; have N67 : Aside0 (g6 ≠ w1.heap.size) := ⟨by have := blk_lt C6.out; omega⟩; have NK7 : Aside0 (gk ≠ w1.heap.size) := ⟨by have := blk_lt CK.out; omega⟩; have G7 : Aside0 (w.heap.size ≤ w1.heap.size) := ⟨D0.out.size⟩; clear C3 C6 CK D0 hd hq; have C3 := n_C3; have C6 := n_C6; have CK := n_CK; have D0 := n_D0; clear n_C3 n_C6 n_CK n_D0))
  obtain ⟨g7, hg7⟩ : ∃ g, g = w1.heap.size := ⟨_, rfl⟩
  have P7 : (Value.pointer (some ⟨w1.heap.size, 0, none⟩)) = .pointer (some ⟨g7, 0, none⟩) := by rw [hg7]
  rw [P7]
  rw [← hg7] at C7 N37 N67 NK7 G7
  clear P7 hg7
  obtain ⟨ws, hws⟩ : ∃ ws, ws = wl b.data.toList 64 := ⟨_, rfl⟩
  have hwl : ws.length = 64 := by rw [hws, wl_len]
  have HWS := Aside0.mk hws
  rw [← hws]
  clear hws
  go_loopw [20] (fun i W => ∃ n : Nat, n ≤ 64 ∧ i = .int .i64 n ∧ Aside0 (W.heap[g7]? = some (.cells (vals (lst (rnds ks ws h n))) 50 (0, 0))) ∧ Aside0 (W.heap[gk]? = some (.cells (vals ks) 51 (0, 0))) ∧ Aside0 (W.heap[g3]? = some (.cells (vals (lst h)) 50 (0, 0))) ∧ Aside0 (W.heap[g6]? = some (.cells (row 8 []) 50 (0, 0))) ∧ Aside0 (Below w.heap.size w W)) (fun i _ => 64 - (intOf i).toNat)
  case atStart => exact ⟨0, by omega, rfl, C7, CK, C3, C6, D0⟩
  case round =>
    clear C7 CK C3 C6 D0
    obtain ⟨n, hn, rfl, C7, CK, C3, C6, D0⟩ := hrel
    by_cases hlt : n < 64
    · have hn64 : n < 64 := hlt
      have pn : (0 ≤ (n : Int)) = True := eq_true (by omega)
      have qn : ((n : Int) < 64) = True := eq_true (by omega)
      obtain ⟨s, hs⟩ : ∃ s, s = rnds ks ws h n := ⟨_, rfl⟩
      have HS := Aside0.mk hs
      rw [← hs] at C7
      clear hs
      obtain ⟨kn, hkn⟩ : ∃ kn, kn = ks.getD n 0 := ⟨_, rfl⟩
      have HKN := Aside0.mk hkn
      obtain ⟨wn, hwn⟩ : ∃ wn, wn = ws.getD n 0 := ⟨_, rfl⟩
      have HWN := Aside0.mk hwn
      have hx := run_index47 (vals ws) n hn64 (.int .u32 (enc wn)) (by rw [hwn]; exact vals_at ws n (by omega))
      clear hkn hwn
      go_upto_region 5 with (fail)
      refine start_ (n := 6) (S := fun W => W.heap[g7]? = some (.cells (vals (lst s)) 50 (0, 0)) ∧ W.heap[gk]? = some (.cells (vals ks) 51 (0, 0))) (ds := []) #[false, false, false, false, false, false] (by kernel_rfl) rfl rfl ⟨blk_drew C7.out, blk_drew CK.out⟩ (fun hHeld => ?_); refine with_tabW tur.tab5 tur.bits5 (fun HT_ HW_ => ?_)
      have n_C7 := Aside0.mk (blk_drew C7.out)
      have n_CK := Aside0.mk (blk_drew CK.out)
      have n_C3 := Aside0.mk (blk_drew C3.out)
      have n_C6 := Aside0.mk (blk_drew C6.out)
      have n_D0 := Aside0.mk (below_drew1 D0.out)
      clear C7 CK C3 C6 D0
      have C7 := n_C7
      have CK := n_CK
      have C3 := n_C3
      have C6 := n_C6
      have D0 := n_D0
      clear n_C7 n_CK n_C3 n_C6 n_D0
      generalize World.drew _ = wR at C7 CK C3 C6 D0 hHeld ⊢
      refine pure_ (i := 0) (N := some 24) (v := ?_) (a' := ?_) #[true, false, false, false, false, false] rfl rfl (any_of HT_.out (by kernel_rfl)) (fun _ _ _ h => h) (Or.inl ⟨by rfl, ?_⟩) ?_ ?_
      rotate_left
      · intro w'
        go_simp
        with_reducible rfl
      rotate_left
      · simp only [Act.put, List.setIfInBounds_toArray, List.set_cons_zero, List.set_cons_succ, i64_w, i32_w]
        rfl
      refine pure_ (i := 2) (N := some 26) (v := ?_) (a' := ?_) #[true, false, true, false, false, false] rfl rfl (any_of HT_.out (by kernel_rfl)) (fun _ _ _ h => h) (Or.inl ⟨by rfl, ?_⟩) ?_ ?_
      rotate_left
      · intro w'
        go_simp
        with_reducible rfl
      rotate_left
      · simp only [Act.put, List.setIfInBounds_toArray, List.set_cons_zero, List.set_cons_succ, i64_w, i32_w]
        rfl
      refine take_ (i := 1) (N := some 25) (v := ?_) (a' := ?_) #[true, true, true, false, false, false] rfl rfl (take_ofW HT_.out HW_.out (by kernel_rfl)) (fun _ _ _ h => h) (Or.inl ⟨by rfl, ?_⟩) hHeld ?_ ?_
      rotate_left
      · rintro w' ⟨s0, s1⟩
        have y0 : w'.cell? ⟨g7, 0, none⟩ = some (.int .u32 (enc s.a)) := (blk_cell s0 0).trans rfl
        have y4 : w'.cell? ⟨g7, 4, none⟩ = some (.int .u32 (enc s.e)) := (blk_cell s0 4).trans rfl
        have yk : w'.cell? ⟨gk, n, none⟩ = some (.int .u32 (enc kn)) := by rw [HKN.out]; exact (blk_cell s1 n).trans (vals_at ks n (by omega))
        go_simp
        with_reducible rfl
      rotate_left
      · simp only [Act.put, List.setIfInBounds_toArray, List.set_cons_zero, List.set_cons_succ, i64_w, i32_w]
        rfl
      refine take_ (i := 3) (N := some 27) (v := ?_) (a' := ?_) #[true, true, true, true, false, false] rfl rfl (take_ofW HT_.out HW_.out (by kernel_rfl)) (fun _ _ _ h => h) (Or.inl ⟨by rfl, ?_⟩) hHeld ?_ ?_
      rotate_left
      · rintro w' ⟨s0, s1⟩
        have y0 : w'.cell? ⟨g7, 0, none⟩ = some (.int .u32 (enc s.a)) := (blk_cell s0 0).trans rfl
        have y4 : w'.cell? ⟨g7, 4, none⟩ = some (.int .u32 (enc s.e)) := (blk_cell s0 4).trans rfl
        have yk : w'.cell? ⟨gk, n, none⟩ = some (.int .u32 (enc kn)) := by rw [HKN.out]; exact (blk_cell s1 n).trans (vals_at ks n (by omega))
        go_simp
        with_reducible rfl
      rotate_left
      · simp only [Act.put, List.setIfInBounds_toArray, List.set_cons_zero, List.set_cons_succ, i64_w, i32_w]
        rfl
      refine pure_ (i := 4) (N := some 10) (v := ?_) (a' := ?_) #[true, true, true, true, true, false] rfl rfl (any_of HT_.out (by kernel_rfl)) (fun _ _ _ h => h) (Or.inl ⟨by rfl, ?_⟩) ?_ ?_
      rotate_left
      · intro w'
        go_simp
        with_reducible rfl
      rotate_left
      · simp only [Act.put, List.setIfInBounds_toArray, List.set_cons_zero, List.set_cons_succ, i64_w, i32_w]
        rfl
      refine pure_ (i := 5) (N := some 11) (v := ?_) (a' := ?_) #[true, true, true, true, true, true] rfl rfl (any_of HT_.out (by kernel_rfl)) (fun _ _ _ h => h) (Or.inl ⟨by rfl, ?_⟩) ?_ ?_
      rotate_left
      · intro w'
        go_simp
        with_reducible rfl
      rotate_left
      · simp only [Act.put, List.setIfInBounds_toArray, List.set_cons_zero, List.set_cons_succ, i64_w, i32_w]
        rfl
      refine done_ (done_of HT_.out (by kernel_rfl)) ?_
      go_upto_region 7 with (first | (go_at_call 44; (with_reducible refine (rot_calls6 _ _).mono ?_); rintro e w2 ⟨rfl, hd⟩; have n_C7 := Aside0.mk (blk_below C7.out hd); have n_CK := Aside0.mk (blk_below CK.out hd); have n_C3 := Aside0.mk (blk_below C3.out hd); have n_C6 := Aside0.mk (blk_below C6.out hd); have n_D0 := Aside0.mk (below_step D0.out hd); clear C7 CK C3 C6 D0; have C7 := n_C7; have CK := n_CK; have C3 := n_C3; have C6 := n_C6; have D0 := n_D0; clear n_C7 n_CK n_C3 n_C6 n_D0; clear hd) | (go_at_call 44; (with_reducible refine (rot_calls11 _ _).mono ?_); rintro e w2 ⟨rfl, hd⟩; have n_C7 := Aside0.mk (blk_below C7.out hd); have n_CK := Aside0.mk (blk_below CK.out hd); have n_C3 := Aside0.mk (blk_below C3.out hd); have n_C6 := Aside0.mk (blk_below C6.out hd); have n_D0 := Aside0.mk (below_step D0.out hd); clear C7 CK C3 C6 D0; have C7 := n_C7; have CK := n_CK; have C3 := n_C3; have C6 := n_C6; have D0 := n_D0; clear n_C7 n_CK n_C3 n_C6 n_D0; clear hd) | (go_at_call 44; (with_reducible refine (rot_calls25 _ _).mono ?_); rintro e w2 ⟨rfl, hd⟩; have n_C7 := Aside0.mk (blk_below C7.out hd); have n_CK := Aside0.mk (blk_below CK.out hd); have n_C3 := Aside0.mk (blk_below C3.out hd); have n_C6 := Aside0.mk (blk_below C6.out hd); have n_D0 := Aside0.mk (below_step D0.out hd); clear C7 CK C3 C6 D0; have C7 := n_C7; have CK := n_CK; have C3 := n_C3; have C6 := n_C6; have D0 := n_D0; clear n_C7 n_CK n_C3 n_C6 n_D0; clear hd))
      go_upto_region 8 with (first | (go_at_call 44; (with_reducible refine (rot_calls2 _ _).mono ?_); rintro e w2 ⟨rfl, hd⟩; have n_C7 := Aside0.mk (blk_below C7.out hd); have n_CK := Aside0.mk (blk_below CK.out hd); have n_C3 := Aside0.mk (blk_below C3.out hd); have n_C6 := Aside0.mk (blk_below C6.out hd); have n_D0 := Aside0.mk (below_step D0.out hd); clear C7 CK C3 C6 D0; have C7 := n_C7; have CK := n_CK; have C3 := n_C3; have C6 := n_C6; have D0 := n_D0; clear n_C7 n_CK n_C3 n_C6 n_D0; clear hd) | (go_at_call 44; (with_reducible refine (rot_calls13 _ _).mono ?_); rintro e w2 ⟨rfl, hd⟩; have n_C7 := Aside0.mk (blk_below C7.out hd); have n_CK := Aside0.mk (blk_below CK.out hd); have n_C3 := Aside0.mk (blk_below C3.out hd); have n_C6 := Aside0.mk (blk_below C6.out hd); have n_D0 := Aside0.mk (below_step D0.out hd); clear C7 CK C3 C6 D0; have C7 := n_C7; have CK := n_CK; have C3 := n_C3; have C6 := n_C6; have D0 := n_D0; clear n_C7 n_CK n_C3 n_C6 n_D0; clear hd) | (go_at_call 44; (with_reducible refine (rot_calls22 _ _).mono ?_); rintro e w2 ⟨rfl, hd⟩; have n_C7 := Aside0.mk (blk_below C7.out hd); have n_CK := Aside0.mk (blk_below CK.out hd); have n_C3 := Aside0.mk (blk_below C3.out hd); have n_C6 := Aside0.mk (blk_below C6.out hd); have n_D0 := Aside0.mk (below_step D0.out hd); clear C7 CK C3 C6 D0; have C7 := n_C7; have CK := n_CK; have C3 := n_C3; have C6 := n_C6; have D0 := n_D0; clear n_C7 n_CK n_C3 n_C6 n_D0; clear hd))
      refine start_ (n := 24) (S := fun W => W.heap[g7]? = some (.cells (vals (lst s)) 50 (0, 0)) ∧ W.heap[gk]? = some (.cells (vals ks) 51 (0, 0))) (ds := []) #[false, false, false, false, false, false, false, false, false, false, false, false, false, false, false, false, false, false, false, false, false, false, false, false] (by kernel_rfl) rfl rfl ⟨blk_drew C7.out, blk_drew CK.out⟩ (fun hHeld => ?_); refine with_tabW tur.tab8 tur.bits8 (fun HT_ HW_ => ?_)
      have n_C7 := Aside0.mk (blk_drew C7.out)
      have n_CK := Aside0.mk (blk_drew CK.out)
      have n_C3 := Aside0.mk (blk_drew C3.out)
      have n_C6 := Aside0.mk (blk_drew C6.out)
      have n_D0 := Aside0.mk (below_drew1 D0.out)
      clear C7 CK C3 C6 D0
      have C7 := n_C7
      have CK := n_CK
      have C3 := n_C3
      have C6 := n_C6
      have D0 := n_D0
      clear n_C7 n_CK n_C3 n_C6 n_D0
      generalize World.drew _ = wR at C7 CK C3 C6 D0 hHeld ⊢
      refine pure_ (i := 0) (N := some 44) (v := ?_) (a' := ?_) #[true, false, false, false, false, false, false, false, false, false, false, false, false, false, false, false, false, false, false, false, false, false, false, false] rfl rfl (any_of HT_.out (by kernel_rfl)) (fun _ _ _ h => h) (Or.inl ⟨by rfl, ?_⟩) ?_ ?_
      rotate_left
      · intro w'
        go_simp
        with_reducible rfl
      rotate_left
      · simp only [Act.put, List.setIfInBounds_toArray, List.set_cons_zero, List.set_cons_succ, i64_w, i32_w]
        rfl
      refine pure_ (i := 2) (N := some 46) (v := ?_) (a' := ?_) #[true, false, true, false, false, false, false, false, false, false, false, false, false, false, false, false, false, false, false, false, false, false, false, false] rfl rfl (any_of HT_.out (by kernel_rfl)) (fun _ _ _ h => h) (Or.inl ⟨by rfl, ?_⟩) ?_ ?_
      rotate_left
      · intro w'
        go_simp
        with_reducible rfl
      rotate_left
      · simp only [Act.put, List.setIfInBounds_toArray, List.set_cons_zero, List.set_cons_succ, i64_w, i32_w]
        rfl
      refine pure_ (i := 4) (N := some 48) (v := ?_) (a' := ?_) #[true, false, true, false, true, false, false, false, false, false, false, false, false, false, false, false, false, false, false, false, false, false, false, false] rfl rfl (any_of HT_.out (by kernel_rfl)) (fun _ _ _ h => h) (Or.inl ⟨by rfl, ?_⟩) ?_ ?_
      rotate_left
      · intro w'
        go_simp
        with_reducible rfl
      rotate_left
      · simp only [Act.put, List.setIfInBounds_toArray, List.set_cons_zero, List.set_cons_succ, i64_w, i32_w]
        rfl
      refine pure_ (i := 5) (N := some 49) (v := ?_) (a' := ?_) #[true, false, true, false, true, true, false, false, false, false, false, false, false, false, false, false, false, false, false, false, false, false, false, false] rfl rfl (any_of HT_.out (by kernel_rfl)) (fun _ _ _ h => h) (Or.inl ⟨by rfl, ?_⟩) ?_ ?_
      rotate_left
      · intro w'
        go_simp
        with_reducible rfl
      rotate_left
      · simp only [Act.put, List.setIfInBounds_toArray, List.set_cons_zero, List.set_cons_succ, i64_w, i32_w]
        rfl
      refine pure_ (i := 8) (N := some 52) (v := ?_) (a' := ?_) #[true, false, true, false, true, true, false, false, true, false, false, false, false, false, false, false, false, false, false, false, false, false, false, false] rfl rfl (any_of HT_.out (by kernel_rfl)) (fun _ _ _ h => h) (Or.inl ⟨by rfl, ?_⟩) ?_ ?_
      rotate_left
      · intro w'
        go_simp
        with_reducible rfl
      rotate_left
      · simp only [Act.put, List.setIfInBounds_toArray, List.set_cons_zero, List.set_cons_succ, i64_w, i32_w]
        rfl
      refine pure_ (i := 9) (N := some 53) (v := ?_) (a' := ?_) #[true, false, true, false, true, true, false, false, true, true, false, false, false, false, false, false, false, false, false, false, false, false, false, false] rfl rfl (any_of HT_.out (by kernel_rfl)) (fun _ _ _ h => h) (Or.inl ⟨by rfl, ?_⟩) ?_ ?_
      rotate_left
      · intro w'
        go_simp
        with_reducible rfl
      rotate_left
      · simp only [Act.put, List.setIfInBounds_toArray, List.set_cons_zero, List.set_cons_succ, i64_w, i32_w]
        rfl
      refine pure_ (i := 10) (N := some 54) (v := ?_) (a' := ?_) #[true, false, true, false, true, true, false, false, true, true, true, false, false, false, false, false, false, false, false, false, false, false, false, false] rfl rfl (any_of HT_.out (by kernel_rfl)) (fun _ _ _ h => h) (Or.inl ⟨by rfl, ?_⟩) ?_ ?_
      rotate_left
      · intro w'
        go_simp
        with_reducible rfl
      rotate_left
      · simp only [Act.put, List.setIfInBounds_toArray, List.set_cons_zero, List.set_cons_succ, i64_w, i32_w]
        rfl
      refine pure_ (i := 15) (N := some 59) (v := ?_) (a' := ?_) #[true, false, true, false, true, true, false, false, true, true, true, false, false, false, false, true, false, false, false, false, false, false, false, false] rfl rfl (any_of HT_.out (by kernel_rfl)) (fun _ _ _ h => h) (Or.inl ⟨by rfl, ?_⟩) ?_ ?_
      rotate_left
      · intro w'
        go_simp
        with_reducible rfl
      rotate_left
      · simp only [Act.put, List.setIfInBounds_toArray, List.set_cons_zero, List.set_cons_succ, i64_w, i32_w]
        rfl
      refine pure_ (i := 16) (N := some 60) (v := ?_) (a' := ?_) #[true, false, true, false, true, true, false, false, true, true, true, false, false, false, false, true, true, false, false, false, false, false, false, false] rfl rfl (any_of HT_.out (by kernel_rfl)) (fun _ _ _ h => h) (Or.inl ⟨by rfl, ?_⟩) ?_ ?_
      rotate_left
      · intro w'
        go_simp
        with_reducible rfl
      rotate_left
      · simp only [Act.put, List.setIfInBounds_toArray, List.set_cons_zero, List.set_cons_succ, i64_w, i32_w]
        rfl
      refine pure_ (i := 17) (N := some 61) (v := ?_) (a' := ?_) #[true, false, true, false, true, true, false, false, true, true, true, false, false, false, false, true, true, true, false, false, false, false, false, false] rfl rfl (any_of HT_.out (by kernel_rfl)) (fun _ _ _ h => h) (Or.inl ⟨by rfl, ?_⟩) ?_ ?_
      rotate_left
      · intro w'
        go_simp
        with_reducible rfl
      rotate_left
      · simp only [Act.put, List.setIfInBounds_toArray, List.set_cons_zero, List.set_cons_succ, i64_w, i32_w]
        rfl
      refine pure_ (i := 18) (N := some 62) (v := ?_) (a' := ?_) #[true, false, true, false, true, true, false, false, true, true, true, false, false, false, false, true, true, true, true, false, false, false, false, false] rfl rfl (any_of HT_.out (by kernel_rfl)) (fun _ _ _ h => h) (Or.inl ⟨by rfl, ?_⟩) ?_ ?_
      rotate_left
      · intro w'
        go_simp
        with_reducible rfl
      rotate_left
      · simp only [Act.put, List.setIfInBounds_toArray, List.set_cons_zero, List.set_cons_succ, i64_w, i32_w]
        rfl
      refine take_ (i := 1) (N := some 45) (v := ?_) (a' := ?_) #[true, true, true, false, true, true, false, false, true, true, true, false, false, false, false, true, true, true, true, false, false, false, false, false] rfl rfl (take_ofW HT_.out HW_.out (by kernel_rfl)) (fun _ _ _ h => h) (Or.inl ⟨by rfl, ?_⟩) hHeld ?_ ?_
      rotate_left
      · rintro w' ⟨s0, s1⟩
        have y7 : w'.cell? ⟨g7, 7, none⟩ = some (.int .u32 (enc s.h)) := (blk_cell s0 7).trans rfl
        have y5 : w'.cell? ⟨g7, 5, none⟩ = some (.int .u32 (enc s.f)) := (blk_cell s0 5).trans rfl
        have y6 : w'.cell? ⟨g7, 6, none⟩ = some (.int .u32 (enc s.g)) := (blk_cell s0 6).trans rfl
        have yk : w'.cell? ⟨gk, n, none⟩ = some (.int .u32 (enc kn)) := by rw [HKN.out]; exact (blk_cell s1 n).trans (vals_at ks n (by omega))
        go_simp
        with_reducible rfl
      rotate_left
      · simp only [Act.put, List.setIfInBounds_toArray, List.set_cons_zero, List.set_cons_succ, i64_w, i32_w]
        rfl
      refine take_ (i := 6) (N := some 50) (v := ?_) (a' := ?_) #[true, true, true, false, true, true, true, false, true, true, true, false, false, false, false, true, true, true, true, false, false, false, false, false] rfl rfl (take_ofW HT_.out HW_.out (by kernel_rfl)) (fun _ _ _ h => h) (Or.inl ⟨by rfl, ?_⟩) hHeld ?_ ?_
      rotate_left
      · rintro w' ⟨s0, s1⟩
        have y7 : w'.cell? ⟨g7, 7, none⟩ = some (.int .u32 (enc s.h)) := (blk_cell s0 7).trans rfl
        have y5 : w'.cell? ⟨g7, 5, none⟩ = some (.int .u32 (enc s.f)) := (blk_cell s0 5).trans rfl
        have y6 : w'.cell? ⟨g7, 6, none⟩ = some (.int .u32 (enc s.g)) := (blk_cell s0 6).trans rfl
        have yk : w'.cell? ⟨gk, n, none⟩ = some (.int .u32 (enc kn)) := by rw [HKN.out]; exact (blk_cell s1 n).trans (vals_at ks n (by omega))
        go_simp
        with_reducible rfl
      rotate_left
      · simp only [Act.put, List.setIfInBounds_toArray, List.set_cons_zero, List.set_cons_succ, i64_w, i32_w]
        rfl
      refine take_ (i := 11) (N := some 55) (v := ?_) (a' := ?_) #[true, true, true, false, true, true, true, false, true, true, true, true, false, false, false, true, true, true, true, false, false, false, false, false] rfl rfl (take_ofW HT_.out HW_.out (by kernel_rfl)) (fun _ _ _ h => h) (Or.inl ⟨by rfl, ?_⟩) hHeld ?_ ?_
      rotate_left
      · rintro w' ⟨s0, s1⟩
        have y7 : w'.cell? ⟨g7, 7, none⟩ = some (.int .u32 (enc s.h)) := (blk_cell s0 7).trans rfl
        have y5 : w'.cell? ⟨g7, 5, none⟩ = some (.int .u32 (enc s.f)) := (blk_cell s0 5).trans rfl
        have y6 : w'.cell? ⟨g7, 6, none⟩ = some (.int .u32 (enc s.g)) := (blk_cell s0 6).trans rfl
        have yk : w'.cell? ⟨gk, n, none⟩ = some (.int .u32 (enc kn)) := by rw [HKN.out]; exact (blk_cell s1 n).trans (vals_at ks n (by omega))
        go_simp
        with_reducible rfl
      rotate_left
      · simp only [Act.put, List.setIfInBounds_toArray, List.set_cons_zero, List.set_cons_succ, i64_w, i32_w]
        rfl
      refine take_ (i := 19) (N := some 63) (v := ?_) (a' := ?_) #[true, true, true, false, true, true, true, false, true, true, true, true, false, false, false, true, true, true, true, true, false, false, false, false] rfl rfl (take_ofW HT_.out HW_.out (by kernel_rfl)) (fun _ _ _ h => h) (Or.inl ⟨by rfl, ?_⟩) hHeld ?_ ?_
      rotate_left
      · rintro w' ⟨s0, s1⟩
        have y7 : w'.cell? ⟨g7, 7, none⟩ = some (.int .u32 (enc s.h)) := (blk_cell s0 7).trans rfl
        have y5 : w'.cell? ⟨g7, 5, none⟩ = some (.int .u32 (enc s.f)) := (blk_cell s0 5).trans rfl
        have y6 : w'.cell? ⟨g7, 6, none⟩ = some (.int .u32 (enc s.g)) := (blk_cell s0 6).trans rfl
        have yk : w'.cell? ⟨gk, n, none⟩ = some (.int .u32 (enc kn)) := by rw [HKN.out]; exact (blk_cell s1 n).trans (vals_at ks n (by omega))
        go_simp
        with_reducible rfl
      rotate_left
      · simp only [Act.put, List.setIfInBounds_toArray, List.set_cons_zero, List.set_cons_succ, i64_w, i32_w]
        rfl
      refine pure_ (i := 3) (N := some 47) (v := ?_) (a' := ?_) #[true, true, true, true, true, true, true, false, true, true, true, true, false, false, false, true, true, true, true, true, false, false, false, false] rfl rfl (any_of HT_.out (by kernel_rfl)) (fun _ _ _ h => h) (Or.inl ⟨by rfl, ?_⟩) ?_ ?_
      rotate_left
      · intro w'
        go_simp
        with_reducible rfl
      rotate_left
      · simp only [Act.put, List.setIfInBounds_toArray, List.set_cons_zero, List.set_cons_succ, i64_w, i32_w]
        rfl
      refine pure_ (i := 7) (N := some 51) (v := ?_) (a' := ?_) #[true, true, true, true, true, true, true, true, true, true, true, true, false, false, false, true, true, true, true, true, false, false, false, false] rfl rfl (any_of HT_.out (by kernel_rfl)) (fun _ _ _ h => h) (Or.inl ⟨by rfl, ?_⟩) ?_ ?_
      rotate_left
      · intro w'
        go_simp
        with_reducible rfl
      rotate_left
      · simp only [Act.put, List.setIfInBounds_toArray, List.set_cons_zero, List.set_cons_succ, i64_w, i32_w]
        rfl
      refine pure_ (i := 12) (N := some 56) (v := ?_) (a' := ?_) #[true, true, true, true, true, true, true, true, true, true, true, true, true, false, false, true, true, true, true, true, false, false, false, false] rfl rfl (any_of HT_.out (by kernel_rfl)) (fun _ _ _ h => h) (Or.inl ⟨by rfl, ?_⟩) ?_ ?_
      rotate_left
      · intro w'
        go_simp
        with_reducible rfl
      rotate_left
      · simp only [Act.put, List.setIfInBounds_toArray, List.set_cons_zero, List.set_cons_succ, i64_w, i32_w]
        rfl
      refine pure_ (i := 13) (N := some 57) (v := ?_) (a' := ?_) #[true, true, true, true, true, true, true, true, true, true, true, true, true, true, false, true, true, true, true, true, false, false, false, false] rfl rfl (any_of HT_.out (by kernel_rfl)) (fun _ _ _ h => h) (Or.inl ⟨by rfl, ?_⟩) ?_ ?_
      rotate_left
      · intro w'
        go_simp
        with_reducible rfl
      rotate_left
      · simp only [Act.put, List.setIfInBounds_toArray, List.set_cons_zero, List.set_cons_succ, i64_w, i32_w]
        rfl
      refine pure_ (i := 14) (N := some 58) (v := ?_) (a' := ?_) #[true, true, true, true, true, true, true, true, true, true, true, true, true, true, true, true, true, true, true, true, false, false, false, false] rfl rfl (any_of HT_.out (by kernel_rfl)) (fun _ _ _ h => h) (Or.inl ⟨by rfl, ?_⟩) ?_ ?_
      rotate_left
      · intro w'
        go_simp
        with_reducible rfl
      rotate_left
      · simp only [Act.put, List.setIfInBounds_toArray, List.set_cons_zero, List.set_cons_succ, i64_w, i32_w]
        rfl
      refine pure_ (i := 20) (N := some 64) (v := ?_) (a' := ?_) #[true, true, true, true, true, true, true, true, true, true, true, true, true, true, true, true, true, true, true, true, true, false, false, false] rfl rfl (any_of HT_.out (by kernel_rfl)) (fun _ _ _ h => h) (Or.inl ⟨by rfl, ?_⟩) ?_ ?_
      rotate_left
      · intro w'
        go_simp
        with_reducible rfl
      rotate_left
      · simp only [Act.put, List.setIfInBounds_toArray, List.set_cons_zero, List.set_cons_succ, i64_w, i32_w]
        rfl
      refine pure_ (i := 21) (N := some 65) (v := ?_) (a' := ?_) #[true, true, true, true, true, true, true, true, true, true, true, true, true, true, true, true, true, true, true, true, true, true, false, false] rfl rfl (any_of HT_.out (by kernel_rfl)) (fun _ _ _ h => h) (Or.inl ⟨by rfl, ?_⟩) ?_ ?_
      rotate_left
      · intro w'
        go_simp
        with_reducible rfl
      rotate_left
      · simp only [Act.put, List.setIfInBounds_toArray, List.set_cons_zero, List.set_cons_succ, i64_w, i32_w]
        rfl
      refine pure_ (i := 22) (N := some 66) (v := ?_) (a' := ?_) #[true, true, true, true, true, true, true, true, true, true, true, true, true, true, true, true, true, true, true, true, true, true, true, false] rfl rfl (any_of HT_.out (by kernel_rfl)) (fun _ _ _ h => h) (Or.inl ⟨by rfl, ?_⟩) ?_ ?_
      rotate_left
      · intro w'
        go_simp
        with_reducible rfl
      rotate_left
      · simp only [Act.put, List.setIfInBounds_toArray, List.set_cons_zero, List.set_cons_succ, i64_w, i32_w]
        rfl
      refine pure_ (i := 23) (N := some 14) (v := ?_) (a' := ?_) #[true, true, true, true, true, true, true, true, true, true, true, true, true, true, true, true, true, true, true, true, true, true, true, true] rfl rfl (any_of HT_.out (by kernel_rfl)) (fun _ _ _ h => h) (Or.inl ⟨by rfl, ?_⟩) ?_ ?_
      rotate_left
      · intro w'
        go_simp
        with_reducible rfl
      rotate_left
      · simp only [Act.put, List.setIfInBounds_toArray, List.set_cons_zero, List.set_cons_succ, i64_w, i32_w]
        rfl
      refine done_ (done_of HT_.out (by kernel_rfl)) ?_
      have hc0 : wR.cell? ⟨g7, 0, none⟩ = some (.int .u32 (enc s.a)) := (blk_cell C7.out 0).trans rfl
      have hc1 : wR.cell? ⟨g7, 1, none⟩ = some (.int .u32 (enc s.b)) := (blk_cell C7.out 1).trans rfl
      have hc2 : wR.cell? ⟨g7, 2, none⟩ = some (.int .u32 (enc s.c)) := (blk_cell C7.out 2).trans rfl
      have hc3 : wR.cell? ⟨g7, 3, none⟩ = some (.int .u32 (enc s.d)) := (blk_cell C7.out 3).trans rfl
      have hc5 : wR.cell? ⟨g7, 5, none⟩ = some (.int .u32 (enc s.f)) := (blk_cell C7.out 5).trans rfl
      have hc6 : wR.cell? ⟨g7, 6, none⟩ = some (.int .u32 (enc s.g)) := (blk_cell C7.out 6).trans rfl
      go_wp2_with ((with_reducible refine gate_store rfl ?_); go_loud (refine wpList_store_row rfl 50 (.tmp 7) (.tmp 101) rfl g7 (vals (lst (rnd s kn wn))) rfl rfl 50 _ C7.out (by rw [show (vals (lst (rnd s kn wn))).size = 8 from rfl]; exact i46) rfl (vals_one _) ?_))
      refine ⟨⟨n + 1, by omega, by go_num, ⟨by rw [show rnds ks ws h (n + 1) = rnd s kn wn from by rw [HS.out, HKN.out, HWN.out]; rfl]; exact setRow_heap _ _ _ _ _ _ C7.out⟩, ⟨(setRow_other _ _ _ _ NK7.out).trans CK.out⟩, ⟨(setRow_other _ _ _ _ N37.out).trans C3.out⟩, ⟨(setRow_other _ _ _ _ N67.out).trans C6.out⟩, ⟨below_setRow D0.out G7.out _⟩⟩, ?_⟩
      simp [intOf]; omega
    · obtain rfl : n = 64 := by omega
      have q64 : (((64 : Nat) : Int) < 64) = False := eq_false (by omega)
      obtain ⟨X, hX⟩ : ∃ X, X = rnds ks ws h 64 := ⟨_, rfl⟩
      have HX := Aside0.mk hX
      rw [← hX] at C7
      clear hX
      go_wp2
      go_loopw [103] (fun i W => ∃ n : Nat, n ≤ 8 ∧ i = .int .i64 n ∧ Aside0 (W.heap[g7]? = some (.cells (vals (lst (pl X h n))) 50 (0, 0))) ∧ Aside0 (W.heap[gk]? = some (.cells (vals ks) 51 (0, 0))) ∧ Aside0 (W.heap[g3]? = some (.cells (vals (lst h)) 50 (0, 0))) ∧ Aside0 (W.heap[g6]? = some (.cells (row 8 []) 50 (0, 0))) ∧ Aside0 (Below w.heap.size w W)) (fun i _ => 8 - (intOf i).toNat)
      case atStart => exact ⟨0, by omega, rfl, C7, CK, C3, C6, D0⟩
      case round =>
      clear C7 CK C3 C6 D0
      obtain ⟨n, hn, rfl, C7, CK, C3, C6, D0⟩ := hrel
      have cases : n = 0 ∨ n = 1 ∨ n = 2 ∨ n = 3 ∨ n = 4 ∨ n = 5 ∨ n = 6 ∨ n = 7 ∨ n = 8 := by omega
      rcases cases with rfl | rfl | rfl | rfl | rfl | rfl | rfl | rfl | rfl
      · have q8 : (((0 : Nat) : Int) < 8) = True := eq_true (by omega)
        go_upto_region 15 with (fail)
        refine start_ (n := 9) (S := fun W => W.heap[g7]? = some (.cells (vals (lst (pl X h 0))) 50 (0, 0)) ∧ W.heap[g3]? = some (.cells (vals (lst h)) 50 (0, 0))) (ds := [8]) #[false, false, false, false, false, false, false, false, false] (by kernel_rfl) rfl rfl ⟨blk_drew C7.out, blk_drew C3.out⟩ (fun hHeld => ?_); refine with_tabW tur.tab15 tur.bits15 (fun HT_ HW_ => ?_)
        have n_C7 := Aside0.mk (blk_drew C7.out)
        have n_CK := Aside0.mk (blk_drew CK.out)
        have n_C3 := Aside0.mk (blk_drew C3.out)
        have n_C6 := Aside0.mk (blk_drew C6.out)
        have n_D0 := Aside0.mk (below_drew1 D0.out)
        clear C7 CK C3 C6 D0
        have C7 := n_C7
        have CK := n_CK
        have C3 := n_C3
        have C6 := n_C6
        have D0 := n_D0
        clear n_C7 n_CK n_C3 n_C6 n_D0
        generalize World.drew _ = wR at C7 CK C3 C6 D0 hHeld ⊢
        refine pure_ (i := 0) (N := some 106) (v := ?_) (a' := ?_) #[true, false, false, false, false, false, false, false, false] rfl rfl (any_of HT_.out (by kernel_rfl)) (fun _ _ _ h => h) (Or.inl ⟨by rfl, ?_⟩) ?_ ?_
        rotate_left
        · intro w'
          go_simp
          with_reducible rfl
        rotate_left
        · simp only [Act.put, List.setIfInBounds_toArray, List.set_cons_zero, List.set_cons_succ, i64_w, i32_w]
          rfl
        refine pure_ (i := 1) (N := some 107) (v := ?_) (a' := ?_) #[true, true, false, false, false, false, false, false, false] rfl rfl (any_of HT_.out (by kernel_rfl)) (fun _ _ _ h => h) (Or.inl ⟨by rfl, ?_⟩) ?_ ?_
        rotate_left
        · intro w'
          go_simp
          with_reducible rfl
        rotate_left
        · simp only [Act.put, List.setIfInBounds_toArray, List.set_cons_zero, List.set_cons_succ, i64_w, i32_w]
          rfl
        refine pure_ (i := 3) (N := some 109) (v := ?_) (a' := ?_) #[true, true, false, true, false, false, false, false, false] rfl rfl (any_of HT_.out (by kernel_rfl)) (fun _ _ _ h => h) (Or.inl ⟨by rfl, ?_⟩) ?_ ?_
        rotate_left
        · intro w'
          go_simp
          with_reducible rfl
        rotate_left
        · simp only [Act.put, List.setIfInBounds_toArray, List.set_cons_zero, List.set_cons_succ, i64_w, i32_w]
          rfl
        refine pure_ (i := 4) (N := some 110) (v := ?_) (a' := ?_) #[true, true, false, true, true, false, false, false, false] rfl rfl (any_of HT_.out (by kernel_rfl)) (fun _ _ _ h => h) (Or.inl ⟨by rfl, ?_⟩) ?_ ?_
        rotate_left
        · intro w'
          go_simp
          with_reducible rfl
        rotate_left
        · simp only [Act.put, List.setIfInBounds_toArray, List.set_cons_zero, List.set_cons_succ, i64_w, i32_w]
          rfl
        refine take_ (i := 2) (N := some 108) (v := ?_) (a' := ?_) #[true, true, true, true, true, false, false, false, false] rfl rfl (take_ofW HT_.out HW_.out (by kernel_rfl)) (fun _ _ _ h => h) (Or.inl ⟨by rfl, ?_⟩) hHeld ?_ ?_
        rotate_left
        · rintro w' ⟨s0, s1⟩
          have y0 : w'.cell? ⟨g7, 0, none⟩ = some (.int .u32 (enc X.a)) := (blk_cell s0 0).trans rfl
          have y1 : w'.cell? ⟨g3, 0, none⟩ = some (.int .u32 (enc h.a)) := (blk_cell s1 0).trans rfl
          go_simp
          with_reducible rfl
        rotate_left
        · simp only [Act.put, List.setIfInBounds_toArray, List.set_cons_zero, List.set_cons_succ, i64_w, i32_w]
          rfl
        refine take_ (i := 5) (N := some 111) (v := ?_) (a' := ?_) #[true, true, true, true, true, true, false, false, false] rfl rfl (take_ofW HT_.out HW_.out (by kernel_rfl)) (fun _ _ _ h => h) (Or.inl ⟨by rfl, ?_⟩) hHeld ?_ ?_
        rotate_left
        · rintro w' ⟨s0, s1⟩
          have y0 : w'.cell? ⟨g7, 0, none⟩ = some (.int .u32 (enc X.a)) := (blk_cell s0 0).trans rfl
          have y1 : w'.cell? ⟨g3, 0, none⟩ = some (.int .u32 (enc h.a)) := (blk_cell s1 0).trans rfl
          go_simp
          with_reducible rfl
        rotate_left
        · simp only [Act.put, List.setIfInBounds_toArray, List.set_cons_zero, List.set_cons_succ, i64_w, i32_w]
          rfl
        refine pure_ (i := 6) (N := some 112) (v := ?_) (a' := ?_) #[true, true, true, true, true, true, true, false, false] rfl rfl (any_of HT_.out (by kernel_rfl)) (fun _ _ _ h => h) (Or.inl ⟨by rfl, ?_⟩) ?_ ?_
        rotate_left
        · intro w'
          go_simp
          with_reducible rfl
        rotate_left
        · simp only [Act.put, List.setIfInBounds_toArray, List.set_cons_zero, List.set_cons_succ, i64_w, i32_w]
          rfl
        refine pure_ (i := 7) (N := some 113) (v := ?_) (a' := ?_) #[true, true, true, true, true, true, true, true, false] rfl rfl (any_of HT_.out (by kernel_rfl)) (fun _ _ _ h => h) (Or.inl ⟨by rfl, ?_⟩) ?_ ?_
        rotate_left
        · intro w'
          go_simp
          with_reducible rfl
        rotate_left
        · simp only [Act.put, List.setIfInBounds_toArray, List.set_cons_zero, List.set_cons_succ, i64_w, i32_w]
          rfl
        refine last_ (i := 8) (N := none) #[true, true, true, true, true, true, true, true, true] rfl rfl (one_of HT_.out (by kernel_rfl)) (by decide) (fun K hK => ?_)
        have hz : wR.cell? ⟨g7, 0, none⟩ = some (.int .u32 (enc X.a)) := (blk_cell C7.out 0).trans rfl
        have hf := blk_frozen C7.out 0
        refine skip_ (w1 := ?_) (by rfl) rfl ?_ ?_
        rotate_left
        · go_simp
          rfl
        refine hK.out _ _ ?_
        clear hK K
        refine done_ (done_of HT_.out (by kernel_rfl)) ?_
        go_wp2
        go_roundw
        case rel => exact ⟨1, by omega, by go_num, ⟨blk_put C7.out 0 _ rfl⟩, ⟨blk_far CK.out (p := ⟨g7, 0, none⟩) NK7.out _⟩, ⟨blk_far C3.out (p := ⟨g7, 0, none⟩) N37.out _⟩, ⟨blk_far C6.out (p := ⟨g7, 0, none⟩) N67.out _⟩, ⟨below_set' D0.out G7.out⟩⟩
        case measure => simp [intOf]
      · have q8 : (((1 : Nat) : Int) < 8) = True := eq_true (by omega)
        go_upto_region 15 with (fail)
        refine start_ (n := 9) (S := fun W => W.heap[g7]? = some (.cells (vals (lst (pl X h 1))) 50 (0, 0)) ∧ W.heap[g3]? = some (.cells (vals (lst h)) 50 (0, 0))) (ds := [8]) #[false, false, false, false, false, false, false, false, false] (by kernel_rfl) rfl rfl ⟨blk_drew C7.out, blk_drew C3.out⟩ (fun hHeld => ?_); refine with_tabW tur.tab15 tur.bits15 (fun HT_ HW_ => ?_)
        have n_C7 := Aside0.mk (blk_drew C7.out)
        have n_CK := Aside0.mk (blk_drew CK.out)
        have n_C3 := Aside0.mk (blk_drew C3.out)
        have n_C6 := Aside0.mk (blk_drew C6.out)
        have n_D0 := Aside0.mk (below_drew1 D0.out)
        clear C7 CK C3 C6 D0
        have C7 := n_C7
        have CK := n_CK
        have C3 := n_C3
        have C6 := n_C6
        have D0 := n_D0
        clear n_C7 n_CK n_C3 n_C6 n_D0
        generalize World.drew _ = wR at C7 CK C3 C6 D0 hHeld ⊢
        refine pure_ (i := 0) (N := some 106) (v := ?_) (a' := ?_) #[true, false, false, false, false, false, false, false, false] rfl rfl (any_of HT_.out (by kernel_rfl)) (fun _ _ _ h => h) (Or.inl ⟨by rfl, ?_⟩) ?_ ?_
        rotate_left
        · intro w'
          go_simp
          with_reducible rfl
        rotate_left
        · simp only [Act.put, List.setIfInBounds_toArray, List.set_cons_zero, List.set_cons_succ, i64_w, i32_w]
          rfl
        refine pure_ (i := 1) (N := some 107) (v := ?_) (a' := ?_) #[true, true, false, false, false, false, false, false, false] rfl rfl (any_of HT_.out (by kernel_rfl)) (fun _ _ _ h => h) (Or.inl ⟨by rfl, ?_⟩) ?_ ?_
        rotate_left
        · intro w'
          go_simp
          with_reducible rfl
        rotate_left
        · simp only [Act.put, List.setIfInBounds_toArray, List.set_cons_zero, List.set_cons_succ, i64_w, i32_w]
          rfl
        refine pure_ (i := 3) (N := some 109) (v := ?_) (a' := ?_) #[true, true, false, true, false, false, false, false, false] rfl rfl (any_of HT_.out (by kernel_rfl)) (fun _ _ _ h => h) (Or.inl ⟨by rfl, ?_⟩) ?_ ?_
        rotate_left
        · intro w'
          go_simp
          with_reducible rfl
        rotate_left
        · simp only [Act.put, List.setIfInBounds_toArray, List.set_cons_zero, List.set_cons_succ, i64_w, i32_w]
          rfl
        refine pure_ (i := 4) (N := some 110) (v := ?_) (a' := ?_) #[true, true, false, true, true, false, false, false, false] rfl rfl (any_of HT_.out (by kernel_rfl)) (fun _ _ _ h => h) (Or.inl ⟨by rfl, ?_⟩) ?_ ?_
        rotate_left
        · intro w'
          go_simp
          with_reducible rfl
        rotate_left
        · simp only [Act.put, List.setIfInBounds_toArray, List.set_cons_zero, List.set_cons_succ, i64_w, i32_w]
          rfl
        refine take_ (i := 2) (N := some 108) (v := ?_) (a' := ?_) #[true, true, true, true, true, false, false, false, false] rfl rfl (take_ofW HT_.out HW_.out (by kernel_rfl)) (fun _ _ _ h => h) (Or.inl ⟨by rfl, ?_⟩) hHeld ?_ ?_
        rotate_left
        · rintro w' ⟨s0, s1⟩
          have y0 : w'.cell? ⟨g7, 1, none⟩ = some (.int .u32 (enc X.b)) := (blk_cell s0 1).trans rfl
          have y1 : w'.cell? ⟨g3, 1, none⟩ = some (.int .u32 (enc h.b)) := (blk_cell s1 1).trans rfl
          go_simp
          with_reducible rfl
        rotate_left
        · simp only [Act.put, List.setIfInBounds_toArray, List.set_cons_zero, List.set_cons_succ, i64_w, i32_w]
          rfl
        refine take_ (i := 5) (N := some 111) (v := ?_) (a' := ?_) #[true, true, true, true, true, true, false, false, false] rfl rfl (take_ofW HT_.out HW_.out (by kernel_rfl)) (fun _ _ _ h => h) (Or.inl ⟨by rfl, ?_⟩) hHeld ?_ ?_
        rotate_left
        · rintro w' ⟨s0, s1⟩
          have y0 : w'.cell? ⟨g7, 1, none⟩ = some (.int .u32 (enc X.b)) := (blk_cell s0 1).trans rfl
          have y1 : w'.cell? ⟨g3, 1, none⟩ = some (.int .u32 (enc h.b)) := (blk_cell s1 1).trans rfl
          go_simp
          with_reducible rfl
        rotate_left
        · simp only [Act.put, List.setIfInBounds_toArray, List.set_cons_zero, List.set_cons_succ, i64_w, i32_w]
          rfl
        refine pure_ (i := 6) (N := some 112) (v := ?_) (a' := ?_) #[true, true, true, true, true, true, true, false, false] rfl rfl (any_of HT_.out (by kernel_rfl)) (fun _ _ _ h => h) (Or.inl ⟨by rfl, ?_⟩) ?_ ?_
        rotate_left
        · intro w'
          go_simp
          with_reducible rfl
        rotate_left
        · simp only [Act.put, List.setIfInBounds_toArray, List.set_cons_zero, List.set_cons_succ, i64_w, i32_w]
          rfl
        refine pure_ (i := 7) (N := some 113) (v := ?_) (a' := ?_) #[true, true, true, true, true, true, true, true, false] rfl rfl (any_of HT_.out (by kernel_rfl)) (fun _ _ _ h => h) (Or.inl ⟨by rfl, ?_⟩) ?_ ?_
        rotate_left
        · intro w'
          go_simp
          with_reducible rfl
        rotate_left
        · simp only [Act.put, List.setIfInBounds_toArray, List.set_cons_zero, List.set_cons_succ, i64_w, i32_w]
          rfl
        refine last_ (i := 8) (N := none) #[true, true, true, true, true, true, true, true, true] rfl rfl (one_of HT_.out (by kernel_rfl)) (by decide) (fun K hK => ?_)
        have hz : wR.cell? ⟨g7, 1, none⟩ = some (.int .u32 (enc X.b)) := (blk_cell C7.out 1).trans rfl
        have hf := blk_frozen C7.out 1
        refine skip_ (w1 := ?_) (by rfl) rfl ?_ ?_
        rotate_left
        · go_simp
          rfl
        refine hK.out _ _ ?_
        clear hK K
        refine done_ (done_of HT_.out (by kernel_rfl)) ?_
        go_wp2
        go_roundw
        case rel => exact ⟨2, by omega, by go_num, ⟨blk_put C7.out 1 _ rfl⟩, ⟨blk_far CK.out (p := ⟨g7, 1, none⟩) NK7.out _⟩, ⟨blk_far C3.out (p := ⟨g7, 1, none⟩) N37.out _⟩, ⟨blk_far C6.out (p := ⟨g7, 1, none⟩) N67.out _⟩, ⟨below_set' D0.out G7.out⟩⟩
        case measure => simp [intOf]
      · have q8 : (((2 : Nat) : Int) < 8) = True := eq_true (by omega)
        go_upto_region 15 with (fail)
        refine start_ (n := 9) (S := fun W => W.heap[g7]? = some (.cells (vals (lst (pl X h 2))) 50 (0, 0)) ∧ W.heap[g3]? = some (.cells (vals (lst h)) 50 (0, 0))) (ds := [8]) #[false, false, false, false, false, false, false, false, false] (by kernel_rfl) rfl rfl ⟨blk_drew C7.out, blk_drew C3.out⟩ (fun hHeld => ?_); refine with_tabW tur.tab15 tur.bits15 (fun HT_ HW_ => ?_)
        have n_C7 := Aside0.mk (blk_drew C7.out)
        have n_CK := Aside0.mk (blk_drew CK.out)
        have n_C3 := Aside0.mk (blk_drew C3.out)
        have n_C6 := Aside0.mk (blk_drew C6.out)
        have n_D0 := Aside0.mk (below_drew1 D0.out)
        clear C7 CK C3 C6 D0
        have C7 := n_C7
        have CK := n_CK
        have C3 := n_C3
        have C6 := n_C6
        have D0 := n_D0
        clear n_C7 n_CK n_C3 n_C6 n_D0
        generalize World.drew _ = wR at C7 CK C3 C6 D0 hHeld ⊢
        refine pure_ (i := 0) (N := some 106) (v := ?_) (a' := ?_) #[true, false, false, false, false, false, false, false, false] rfl rfl (any_of HT_.out (by kernel_rfl)) (fun _ _ _ h => h) (Or.inl ⟨by rfl, ?_⟩) ?_ ?_
        rotate_left
        · intro w'
          go_simp
          with_reducible rfl
        rotate_left
        · simp only [Act.put, List.setIfInBounds_toArray, List.set_cons_zero, List.set_cons_succ, i64_w, i32_w]
          rfl
        refine pure_ (i := 1) (N := some 107) (v := ?_) (a' := ?_) #[true, true, false, false, false, false, false, false, false] rfl rfl (any_of HT_.out (by kernel_rfl)) (fun _ _ _ h => h) (Or.inl ⟨by rfl, ?_⟩) ?_ ?_
        rotate_left
        · intro w'
          go_simp
          with_reducible rfl
        rotate_left
        · simp only [Act.put, List.setIfInBounds_toArray, List.set_cons_zero, List.set_cons_succ, i64_w, i32_w]
          rfl
        refine pure_ (i := 3) (N := some 109) (v := ?_) (a' := ?_) #[true, true, false, true, false, false, false, false, false] rfl rfl (any_of HT_.out (by kernel_rfl)) (fun _ _ _ h => h) (Or.inl ⟨by rfl, ?_⟩) ?_ ?_
        rotate_left
        · intro w'
          go_simp
          with_reducible rfl
        rotate_left
        · simp only [Act.put, List.setIfInBounds_toArray, List.set_cons_zero, List.set_cons_succ, i64_w, i32_w]
          rfl
        refine pure_ (i := 4) (N := some 110) (v := ?_) (a' := ?_) #[true, true, false, true, true, false, false, false, false] rfl rfl (any_of HT_.out (by kernel_rfl)) (fun _ _ _ h => h) (Or.inl ⟨by rfl, ?_⟩) ?_ ?_
        rotate_left
        · intro w'
          go_simp
          with_reducible rfl
        rotate_left
        · simp only [Act.put, List.setIfInBounds_toArray, List.set_cons_zero, List.set_cons_succ, i64_w, i32_w]
          rfl
        refine take_ (i := 2) (N := some 108) (v := ?_) (a' := ?_) #[true, true, true, true, true, false, false, false, false] rfl rfl (take_ofW HT_.out HW_.out (by kernel_rfl)) (fun _ _ _ h => h) (Or.inl ⟨by rfl, ?_⟩) hHeld ?_ ?_
        rotate_left
        · rintro w' ⟨s0, s1⟩
          have y0 : w'.cell? ⟨g7, 2, none⟩ = some (.int .u32 (enc X.c)) := (blk_cell s0 2).trans rfl
          have y1 : w'.cell? ⟨g3, 2, none⟩ = some (.int .u32 (enc h.c)) := (blk_cell s1 2).trans rfl
          go_simp
          with_reducible rfl
        rotate_left
        · simp only [Act.put, List.setIfInBounds_toArray, List.set_cons_zero, List.set_cons_succ, i64_w, i32_w]
          rfl
        refine take_ (i := 5) (N := some 111) (v := ?_) (a' := ?_) #[true, true, true, true, true, true, false, false, false] rfl rfl (take_ofW HT_.out HW_.out (by kernel_rfl)) (fun _ _ _ h => h) (Or.inl ⟨by rfl, ?_⟩) hHeld ?_ ?_
        rotate_left
        · rintro w' ⟨s0, s1⟩
          have y0 : w'.cell? ⟨g7, 2, none⟩ = some (.int .u32 (enc X.c)) := (blk_cell s0 2).trans rfl
          have y1 : w'.cell? ⟨g3, 2, none⟩ = some (.int .u32 (enc h.c)) := (blk_cell s1 2).trans rfl
          go_simp
          with_reducible rfl
        rotate_left
        · simp only [Act.put, List.setIfInBounds_toArray, List.set_cons_zero, List.set_cons_succ, i64_w, i32_w]
          rfl
        refine pure_ (i := 6) (N := some 112) (v := ?_) (a' := ?_) #[true, true, true, true, true, true, true, false, false] rfl rfl (any_of HT_.out (by kernel_rfl)) (fun _ _ _ h => h) (Or.inl ⟨by rfl, ?_⟩) ?_ ?_
        rotate_left
        · intro w'
          go_simp
          with_reducible rfl
        rotate_left
        · simp only [Act.put, List.setIfInBounds_toArray, List.set_cons_zero, List.set_cons_succ, i64_w, i32_w]
          rfl
        refine pure_ (i := 7) (N := some 113) (v := ?_) (a' := ?_) #[true, true, true, true, true, true, true, true, false] rfl rfl (any_of HT_.out (by kernel_rfl)) (fun _ _ _ h => h) (Or.inl ⟨by rfl, ?_⟩) ?_ ?_
        rotate_left
        · intro w'
          go_simp
          with_reducible rfl
        rotate_left
        · simp only [Act.put, List.setIfInBounds_toArray, List.set_cons_zero, List.set_cons_succ, i64_w, i32_w]
          rfl
        refine last_ (i := 8) (N := none) #[true, true, true, true, true, true, true, true, true] rfl rfl (one_of HT_.out (by kernel_rfl)) (by decide) (fun K hK => ?_)
        have hz : wR.cell? ⟨g7, 2, none⟩ = some (.int .u32 (enc X.c)) := (blk_cell C7.out 2).trans rfl
        have hf := blk_frozen C7.out 2
        refine skip_ (w1 := ?_) (by rfl) rfl ?_ ?_
        rotate_left
        · go_simp
          rfl
        refine hK.out _ _ ?_
        clear hK K
        refine done_ (done_of HT_.out (by kernel_rfl)) ?_
        go_wp2
        go_roundw
        case rel => exact ⟨3, by omega, by go_num, ⟨blk_put C7.out 2 _ rfl⟩, ⟨blk_far CK.out (p := ⟨g7, 2, none⟩) NK7.out _⟩, ⟨blk_far C3.out (p := ⟨g7, 2, none⟩) N37.out _⟩, ⟨blk_far C6.out (p := ⟨g7, 2, none⟩) N67.out _⟩, ⟨below_set' D0.out G7.out⟩⟩
        case measure => simp [intOf]
      · have q8 : (((3 : Nat) : Int) < 8) = True := eq_true (by omega)
        go_upto_region 15 with (fail)
        refine start_ (n := 9) (S := fun W => W.heap[g7]? = some (.cells (vals (lst (pl X h 3))) 50 (0, 0)) ∧ W.heap[g3]? = some (.cells (vals (lst h)) 50 (0, 0))) (ds := [8]) #[false, false, false, false, false, false, false, false, false] (by kernel_rfl) rfl rfl ⟨blk_drew C7.out, blk_drew C3.out⟩ (fun hHeld => ?_); refine with_tabW tur.tab15 tur.bits15 (fun HT_ HW_ => ?_)
        have n_C7 := Aside0.mk (blk_drew C7.out)
        have n_CK := Aside0.mk (blk_drew CK.out)
        have n_C3 := Aside0.mk (blk_drew C3.out)
        have n_C6 := Aside0.mk (blk_drew C6.out)
        have n_D0 := Aside0.mk (below_drew1 D0.out)
        clear C7 CK C3 C6 D0
        have C7 := n_C7
        have CK := n_CK
        have C3 := n_C3
        have C6 := n_C6
        have D0 := n_D0
        clear n_C7 n_CK n_C3 n_C6 n_D0
        generalize World.drew _ = wR at C7 CK C3 C6 D0 hHeld ⊢
        refine pure_ (i := 0) (N := some 106) (v := ?_) (a' := ?_) #[true, false, false, false, false, false, false, false, false] rfl rfl (any_of HT_.out (by kernel_rfl)) (fun _ _ _ h => h) (Or.inl ⟨by rfl, ?_⟩) ?_ ?_
        rotate_left
        · intro w'
          go_simp
          with_reducible rfl
        rotate_left
        · simp only [Act.put, List.setIfInBounds_toArray, List.set_cons_zero, List.set_cons_succ, i64_w, i32_w]
          rfl
        refine pure_ (i := 1) (N := some 107) (v := ?_) (a' := ?_) #[true, true, false, false, false, false, false, false, false] rfl rfl (any_of HT_.out (by kernel_rfl)) (fun _ _ _ h => h) (Or.inl ⟨by rfl, ?_⟩) ?_ ?_
        rotate_left
        · intro w'
          go_simp
          with_reducible rfl
        rotate_left
        · simp only [Act.put, List.setIfInBounds_toArray, List.set_cons_zero, List.set_cons_succ, i64_w, i32_w]
          rfl
        refine pure_ (i := 3) (N := some 109) (v := ?_) (a' := ?_) #[true, true, false, true, false, false, false, false, false] rfl rfl (any_of HT_.out (by kernel_rfl)) (fun _ _ _ h => h) (Or.inl ⟨by rfl, ?_⟩) ?_ ?_
        rotate_left
        · intro w'
          go_simp
          with_reducible rfl
        rotate_left
        · simp only [Act.put, List.setIfInBounds_toArray, List.set_cons_zero, List.set_cons_succ, i64_w, i32_w]
          rfl
        refine pure_ (i := 4) (N := some 110) (v := ?_) (a' := ?_) #[true, true, false, true, true, false, false, false, false] rfl rfl (any_of HT_.out (by kernel_rfl)) (fun _ _ _ h => h) (Or.inl ⟨by rfl, ?_⟩) ?_ ?_
        rotate_left
        · intro w'
          go_simp
          with_reducible rfl
        rotate_left
        · simp only [Act.put, List.setIfInBounds_toArray, List.set_cons_zero, List.set_cons_succ, i64_w, i32_w]
          rfl
        refine take_ (i := 2) (N := some 108) (v := ?_) (a' := ?_) #[true, true, true, true, true, false, false, false, false] rfl rfl (take_ofW HT_.out HW_.out (by kernel_rfl)) (fun _ _ _ h => h) (Or.inl ⟨by rfl, ?_⟩) hHeld ?_ ?_
        rotate_left
        · rintro w' ⟨s0, s1⟩
          have y0 : w'.cell? ⟨g7, 3, none⟩ = some (.int .u32 (enc X.d)) := (blk_cell s0 3).trans rfl
          have y1 : w'.cell? ⟨g3, 3, none⟩ = some (.int .u32 (enc h.d)) := (blk_cell s1 3).trans rfl
          go_simp
          with_reducible rfl
        rotate_left
        · simp only [Act.put, List.setIfInBounds_toArray, List.set_cons_zero, List.set_cons_succ, i64_w, i32_w]
          rfl
        refine take_ (i := 5) (N := some 111) (v := ?_) (a' := ?_) #[true, true, true, true, true, true, false, false, false] rfl rfl (take_ofW HT_.out HW_.out (by kernel_rfl)) (fun _ _ _ h => h) (Or.inl ⟨by rfl, ?_⟩) hHeld ?_ ?_
        rotate_left
        · rintro w' ⟨s0, s1⟩
          have y0 : w'.cell? ⟨g7, 3, none⟩ = some (.int .u32 (enc X.d)) := (blk_cell s0 3).trans rfl
          have y1 : w'.cell? ⟨g3, 3, none⟩ = some (.int .u32 (enc h.d)) := (blk_cell s1 3).trans rfl
          go_simp
          with_reducible rfl
        rotate_left
        · simp only [Act.put, List.setIfInBounds_toArray, List.set_cons_zero, List.set_cons_succ, i64_w, i32_w]
          rfl
        refine pure_ (i := 6) (N := some 112) (v := ?_) (a' := ?_) #[true, true, true, true, true, true, true, false, false] rfl rfl (any_of HT_.out (by kernel_rfl)) (fun _ _ _ h => h) (Or.inl ⟨by rfl, ?_⟩) ?_ ?_
        rotate_left
        · intro w'
          go_simp
          with_reducible rfl
        rotate_left
        · simp only [Act.put, List.setIfInBounds_toArray, List.set_cons_zero, List.set_cons_succ, i64_w, i32_w]
          rfl
        refine pure_ (i := 7) (N := some 113) (v := ?_) (a' := ?_) #[true, true, true, true, true, true, true, true, false] rfl rfl (any_of HT_.out (by kernel_rfl)) (fun _ _ _ h => h) (Or.inl ⟨by rfl, ?_⟩) ?_ ?_
        rotate_left
        · intro w'
          go_simp
          with_reducible rfl
        rotate_left
        · simp only [Act.put, List.setIfInBounds_toArray, List.set_cons_zero, List.set_cons_succ, i64_w, i32_w]
          rfl
        refine last_ (i := 8) (N := none) #[true, true, true, true, true, true, true, true, true] rfl rfl (one_of HT_.out (by kernel_rfl)) (by decide) (fun K hK => ?_)
        have hz : wR.cell? ⟨g7, 3, none⟩ = some (.int .u32 (enc X.d)) := (blk_cell C7.out 3).trans rfl
        have hf := blk_frozen C7.out 3
        refine skip_ (w1 := ?_) (by rfl) rfl ?_ ?_
        rotate_left
        · go_simp
          rfl
        refine hK.out _ _ ?_
        clear hK K
        refine done_ (done_of HT_.out (by kernel_rfl)) ?_
        go_wp2
        go_roundw
        case rel => exact ⟨4, by omega, by go_num, ⟨blk_put C7.out 3 _ rfl⟩, ⟨blk_far CK.out (p := ⟨g7, 3, none⟩) NK7.out _⟩, ⟨blk_far C3.out (p := ⟨g7, 3, none⟩) N37.out _⟩, ⟨blk_far C6.out (p := ⟨g7, 3, none⟩) N67.out _⟩, ⟨below_set' D0.out G7.out⟩⟩
        case measure => simp [intOf]
      · have q8 : (((4 : Nat) : Int) < 8) = True := eq_true (by omega)
        go_upto_region 15 with (fail)
        refine start_ (n := 9) (S := fun W => W.heap[g7]? = some (.cells (vals (lst (pl X h 4))) 50 (0, 0)) ∧ W.heap[g3]? = some (.cells (vals (lst h)) 50 (0, 0))) (ds := [8]) #[false, false, false, false, false, false, false, false, false] (by kernel_rfl) rfl rfl ⟨blk_drew C7.out, blk_drew C3.out⟩ (fun hHeld => ?_); refine with_tabW tur.tab15 tur.bits15 (fun HT_ HW_ => ?_)
        have n_C7 := Aside0.mk (blk_drew C7.out)
        have n_CK := Aside0.mk (blk_drew CK.out)
        have n_C3 := Aside0.mk (blk_drew C3.out)
        have n_C6 := Aside0.mk (blk_drew C6.out)
        have n_D0 := Aside0.mk (below_drew1 D0.out)
        clear C7 CK C3 C6 D0
        have C7 := n_C7
        have CK := n_CK
        have C3 := n_C3
        have C6 := n_C6
        have D0 := n_D0
        clear n_C7 n_CK n_C3 n_C6 n_D0
        generalize World.drew _ = wR at C7 CK C3 C6 D0 hHeld ⊢
        refine pure_ (i := 0) (N := some 106) (v := ?_) (a' := ?_) #[true, false, false, false, false, false, false, false, false] rfl rfl (any_of HT_.out (by kernel_rfl)) (fun _ _ _ h => h) (Or.inl ⟨by rfl, ?_⟩) ?_ ?_
        rotate_left
        · intro w'
          go_simp
          with_reducible rfl
        rotate_left
        · simp only [Act.put, List.setIfInBounds_toArray, List.set_cons_zero, List.set_cons_succ, i64_w, i32_w]
          rfl
        refine pure_ (i := 1) (N := some 107) (v := ?_) (a' := ?_) #[true, true, false, false, false, false, false, false, false] rfl rfl (any_of HT_.out (by kernel_rfl)) (fun _ _ _ h => h) (Or.inl ⟨by rfl, ?_⟩) ?_ ?_
        rotate_left
        · intro w'
          go_simp
          with_reducible rfl
        rotate_left
        · simp only [Act.put, List.setIfInBounds_toArray, List.set_cons_zero, List.set_cons_succ, i64_w, i32_w]
          rfl
        refine pure_ (i := 3) (N := some 109) (v := ?_) (a' := ?_) #[true, true, false, true, false, false, false, false, false] rfl rfl (any_of HT_.out (by kernel_rfl)) (fun _ _ _ h => h) (Or.inl ⟨by rfl, ?_⟩) ?_ ?_
        rotate_left
        · intro w'
          go_simp
          with_reducible rfl
        rotate_left
        · simp only [Act.put, List.setIfInBounds_toArray, List.set_cons_zero, List.set_cons_succ, i64_w, i32_w]
          rfl
        refine pure_ (i := 4) (N := some 110) (v := ?_) (a' := ?_) #[true, true, false, true, true, false, false, false, false] rfl rfl (any_of HT_.out (by kernel_rfl)) (fun _ _ _ h => h) (Or.inl ⟨by rfl, ?_⟩) ?_ ?_
        rotate_left
        · intro w'
          go_simp
          with_reducible rfl
        rotate_left
        · simp only [Act.put, List.setIfInBounds_toArray, List.set_cons_zero, List.set_cons_succ, i64_w, i32_w]
          rfl
        refine take_ (i := 2) (N := some 108) (v := ?_) (a' := ?_) #[true, true, true, true, true, false, false, false, false] rfl rfl (take_ofW HT_.out HW_.out (by kernel_rfl)) (fun _ _ _ h => h) (Or.inl ⟨by rfl, ?_⟩) hHeld ?_ ?_
        rotate_left
        · rintro w' ⟨s0, s1⟩
          have y0 : w'.cell? ⟨g7, 4, none⟩ = some (.int .u32 (enc X.e)) := (blk_cell s0 4).trans rfl
          have y1 : w'.cell? ⟨g3, 4, none⟩ = some (.int .u32 (enc h.e)) := (blk_cell s1 4).trans rfl
          go_simp
          with_reducible rfl
        rotate_left
        · simp only [Act.put, List.setIfInBounds_toArray, List.set_cons_zero, List.set_cons_succ, i64_w, i32_w]
          rfl
        refine take_ (i := 5) (N := some 111) (v := ?_) (a' := ?_) #[true, true, true, true, true, true, false, false, false] rfl rfl (take_ofW HT_.out HW_.out (by kernel_rfl)) (fun _ _ _ h => h) (Or.inl ⟨by rfl, ?_⟩) hHeld ?_ ?_
        rotate_left
        · rintro w' ⟨s0, s1⟩
          have y0 : w'.cell? ⟨g7, 4, none⟩ = some (.int .u32 (enc X.e)) := (blk_cell s0 4).trans rfl
          have y1 : w'.cell? ⟨g3, 4, none⟩ = some (.int .u32 (enc h.e)) := (blk_cell s1 4).trans rfl
          go_simp
          with_reducible rfl
        rotate_left
        · simp only [Act.put, List.setIfInBounds_toArray, List.set_cons_zero, List.set_cons_succ, i64_w, i32_w]
          rfl
        refine pure_ (i := 6) (N := some 112) (v := ?_) (a' := ?_) #[true, true, true, true, true, true, true, false, false] rfl rfl (any_of HT_.out (by kernel_rfl)) (fun _ _ _ h => h) (Or.inl ⟨by rfl, ?_⟩) ?_ ?_
        rotate_left
        · intro w'
          go_simp
          with_reducible rfl
        rotate_left
        · simp only [Act.put, List.setIfInBounds_toArray, List.set_cons_zero, List.set_cons_succ, i64_w, i32_w]
          rfl
        refine pure_ (i := 7) (N := some 113) (v := ?_) (a' := ?_) #[true, true, true, true, true, true, true, true, false] rfl rfl (any_of HT_.out (by kernel_rfl)) (fun _ _ _ h => h) (Or.inl ⟨by rfl, ?_⟩) ?_ ?_
        rotate_left
        · intro w'
          go_simp
          with_reducible rfl
        rotate_left
        · simp only [Act.put, List.setIfInBounds_toArray, List.set_cons_zero, List.set_cons_succ, i64_w, i32_w]
          rfl
        refine last_ (i := 8) (N := none) #[true, true, true, true, true, true, true, true, true] rfl rfl (one_of HT_.out (by kernel_rfl)) (by decide) (fun K hK => ?_)
        have hz : wR.cell? ⟨g7, 4, none⟩ = some (.int .u32 (enc X.e)) := (blk_cell C7.out 4).trans rfl
        have hf := blk_frozen C7.out 4
        refine skip_ (w1 := ?_) (by rfl) rfl ?_ ?_
        rotate_left
        · go_simp
          rfl
        refine hK.out _ _ ?_
        clear hK K
        refine done_ (done_of HT_.out (by kernel_rfl)) ?_
        go_wp2
        go_roundw
        case rel => exact ⟨5, by omega, by go_num, ⟨blk_put C7.out 4 _ rfl⟩, ⟨blk_far CK.out (p := ⟨g7, 4, none⟩) NK7.out _⟩, ⟨blk_far C3.out (p := ⟨g7, 4, none⟩) N37.out _⟩, ⟨blk_far C6.out (p := ⟨g7, 4, none⟩) N67.out _⟩, ⟨below_set' D0.out G7.out⟩⟩
        case measure => simp [intOf]
      · have q8 : (((5 : Nat) : Int) < 8) = True := eq_true (by omega)
        go_upto_region 15 with (fail)
        refine start_ (n := 9) (S := fun W => W.heap[g7]? = some (.cells (vals (lst (pl X h 5))) 50 (0, 0)) ∧ W.heap[g3]? = some (.cells (vals (lst h)) 50 (0, 0))) (ds := [8]) #[false, false, false, false, false, false, false, false, false] (by kernel_rfl) rfl rfl ⟨blk_drew C7.out, blk_drew C3.out⟩ (fun hHeld => ?_); refine with_tabW tur.tab15 tur.bits15 (fun HT_ HW_ => ?_)
        have n_C7 := Aside0.mk (blk_drew C7.out)
        have n_CK := Aside0.mk (blk_drew CK.out)
        have n_C3 := Aside0.mk (blk_drew C3.out)
        have n_C6 := Aside0.mk (blk_drew C6.out)
        have n_D0 := Aside0.mk (below_drew1 D0.out)
        clear C7 CK C3 C6 D0
        have C7 := n_C7
        have CK := n_CK
        have C3 := n_C3
        have C6 := n_C6
        have D0 := n_D0
        clear n_C7 n_CK n_C3 n_C6 n_D0
        generalize World.drew _ = wR at C7 CK C3 C6 D0 hHeld ⊢
        refine pure_ (i := 0) (N := some 106) (v := ?_) (a' := ?_) #[true, false, false, false, false, false, false, false, false] rfl rfl (any_of HT_.out (by kernel_rfl)) (fun _ _ _ h => h) (Or.inl ⟨by rfl, ?_⟩) ?_ ?_
        rotate_left
        · intro w'
          go_simp
          with_reducible rfl
        rotate_left
        · simp only [Act.put, List.setIfInBounds_toArray, List.set_cons_zero, List.set_cons_succ, i64_w, i32_w]
          rfl
        refine pure_ (i := 1) (N := some 107) (v := ?_) (a' := ?_) #[true, true, false, false, false, false, false, false, false] rfl rfl (any_of HT_.out (by kernel_rfl)) (fun _ _ _ h => h) (Or.inl ⟨by rfl, ?_⟩) ?_ ?_
        rotate_left
        · intro w'
          go_simp
          with_reducible rfl
        rotate_left
        · simp only [Act.put, List.setIfInBounds_toArray, List.set_cons_zero, List.set_cons_succ, i64_w, i32_w]
          rfl
        refine pure_ (i := 3) (N := some 109) (v := ?_) (a' := ?_) #[true, true, false, true, false, false, false, false, false] rfl rfl (any_of HT_.out (by kernel_rfl)) (fun _ _ _ h => h) (Or.inl ⟨by rfl, ?_⟩) ?_ ?_
        rotate_left
        · intro w'
          go_simp
          with_reducible rfl
        rotate_left
        · simp only [Act.put, List.setIfInBounds_toArray, List.set_cons_zero, List.set_cons_succ, i64_w, i32_w]
          rfl
        refine pure_ (i := 4) (N := some 110) (v := ?_) (a' := ?_) #[true, true, false, true, true, false, false, false, false] rfl rfl (any_of HT_.out (by kernel_rfl)) (fun _ _ _ h => h) (Or.inl ⟨by rfl, ?_⟩) ?_ ?_
        rotate_left
        · intro w'
          go_simp
          with_reducible rfl
        rotate_left
        · simp only [Act.put, List.setIfInBounds_toArray, List.set_cons_zero, List.set_cons_succ, i64_w, i32_w]
          rfl
        refine take_ (i := 2) (N := some 108) (v := ?_) (a' := ?_) #[true, true, true, true, true, false, false, false, false] rfl rfl (take_ofW HT_.out HW_.out (by kernel_rfl)) (fun _ _ _ h => h) (Or.inl ⟨by rfl, ?_⟩) hHeld ?_ ?_
        rotate_left
        · rintro w' ⟨s0, s1⟩
          have y0 : w'.cell? ⟨g7, 5, none⟩ = some (.int .u32 (enc X.f)) := (blk_cell s0 5).trans rfl
          have y1 : w'.cell? ⟨g3, 5, none⟩ = some (.int .u32 (enc h.f)) := (blk_cell s1 5).trans rfl
          go_simp
          with_reducible rfl
        rotate_left
        · simp only [Act.put, List.setIfInBounds_toArray, List.set_cons_zero, List.set_cons_succ, i64_w, i32_w]
          rfl
        refine take_ (i := 5) (N := some 111) (v := ?_) (a' := ?_) #[true, true, true, true, true, true, false, false, false] rfl rfl (take_ofW HT_.out HW_.out (by kernel_rfl)) (fun _ _ _ h => h) (Or.inl ⟨by rfl, ?_⟩) hHeld ?_ ?_
        rotate_left
        · rintro w' ⟨s0, s1⟩
          have y0 : w'.cell? ⟨g7, 5, none⟩ = some (.int .u32 (enc X.f)) := (blk_cell s0 5).trans rfl
          have y1 : w'.cell? ⟨g3, 5, none⟩ = some (.int .u32 (enc h.f)) := (blk_cell s1 5).trans rfl
          go_simp
          with_reducible rfl
        rotate_left
        · simp only [Act.put, List.setIfInBounds_toArray, List.set_cons_zero, List.set_cons_succ, i64_w, i32_w]
          rfl
        refine pure_ (i := 6) (N := some 112) (v := ?_) (a' := ?_) #[true, true, true, true, true, true, true, false, false] rfl rfl (any_of HT_.out (by kernel_rfl)) (fun _ _ _ h => h) (Or.inl ⟨by rfl, ?_⟩) ?_ ?_
        rotate_left
        · intro w'
          go_simp
          with_reducible rfl
        rotate_left
        · simp only [Act.put, List.setIfInBounds_toArray, List.set_cons_zero, List.set_cons_succ, i64_w, i32_w]
          rfl
        refine pure_ (i := 7) (N := some 113) (v := ?_) (a' := ?_) #[true, true, true, true, true, true, true, true, false] rfl rfl (any_of HT_.out (by kernel_rfl)) (fun _ _ _ h => h) (Or.inl ⟨by rfl, ?_⟩) ?_ ?_
        rotate_left
        · intro w'
          go_simp
          with_reducible rfl
        rotate_left
        · simp only [Act.put, List.setIfInBounds_toArray, List.set_cons_zero, List.set_cons_succ, i64_w, i32_w]
          rfl
        refine last_ (i := 8) (N := none) #[true, true, true, true, true, true, true, true, true] rfl rfl (one_of HT_.out (by kernel_rfl)) (by decide) (fun K hK => ?_)
        have hz : wR.cell? ⟨g7, 5, none⟩ = some (.int .u32 (enc X.f)) := (blk_cell C7.out 5).trans rfl
        have hf := blk_frozen C7.out 5
        refine skip_ (w1 := ?_) (by rfl) rfl ?_ ?_
        rotate_left
        · go_simp
          rfl
        refine hK.out _ _ ?_
        clear hK K
        refine done_ (done_of HT_.out (by kernel_rfl)) ?_
        go_wp2
        go_roundw
        case rel => exact ⟨6, by omega, by go_num, ⟨blk_put C7.out 5 _ rfl⟩, ⟨blk_far CK.out (p := ⟨g7, 5, none⟩) NK7.out _⟩, ⟨blk_far C3.out (p := ⟨g7, 5, none⟩) N37.out _⟩, ⟨blk_far C6.out (p := ⟨g7, 5, none⟩) N67.out _⟩, ⟨below_set' D0.out G7.out⟩⟩
        case measure => simp [intOf]
      · have q8 : (((6 : Nat) : Int) < 8) = True := eq_true (by omega)
        go_upto_region 15 with (fail)
        refine start_ (n := 9) (S := fun W => W.heap[g7]? = some (.cells (vals (lst (pl X h 6))) 50 (0, 0)) ∧ W.heap[g3]? = some (.cells (vals (lst h)) 50 (0, 0))) (ds := [8]) #[false, false, false, false, false, false, false, false, false] (by kernel_rfl) rfl rfl ⟨blk_drew C7.out, blk_drew C3.out⟩ (fun hHeld => ?_); refine with_tabW tur.tab15 tur.bits15 (fun HT_ HW_ => ?_)
        have n_C7 := Aside0.mk (blk_drew C7.out)
        have n_CK := Aside0.mk (blk_drew CK.out)
        have n_C3 := Aside0.mk (blk_drew C3.out)
        have n_C6 := Aside0.mk (blk_drew C6.out)
        have n_D0 := Aside0.mk (below_drew1 D0.out)
        clear C7 CK C3 C6 D0
        have C7 := n_C7
        have CK := n_CK
        have C3 := n_C3
        have C6 := n_C6
        have D0 := n_D0
        clear n_C7 n_CK n_C3 n_C6 n_D0
        generalize World.drew _ = wR at C7 CK C3 C6 D0 hHeld ⊢
        refine pure_ (i := 0) (N := some 106) (v := ?_) (a' := ?_) #[true, false, false, false, false, false, false, false, false] rfl rfl (any_of HT_.out (by kernel_rfl)) (fun _ _ _ h => h) (Or.inl ⟨by rfl, ?_⟩) ?_ ?_
        rotate_left
        · intro w'
          go_simp
          with_reducible rfl
        rotate_left
        · simp only [Act.put, List.setIfInBounds_toArray, List.set_cons_zero, List.set_cons_succ, i64_w, i32_w]
          rfl
        refine pure_ (i := 1) (N := some 107) (v := ?_) (a' := ?_) #[true, true, false, false, false, false, false, false, false] rfl rfl (any_of HT_.out (by kernel_rfl)) (fun _ _ _ h => h) (Or.inl ⟨by rfl, ?_⟩) ?_ ?_
        rotate_left
        · intro w'
          go_simp
          with_reducible rfl
        rotate_left
        · simp only [Act.put, List.setIfInBounds_toArray, List.set_cons_zero, List.set_cons_succ, i64_w, i32_w]
          rfl
        refine pure_ (i := 3) (N := some 109) (v := ?_) (a' := ?_) #[true, true, false, true, false, false, false, false, false] rfl rfl (any_of HT_.out (by kernel_rfl)) (fun _ _ _ h => h) (Or.inl ⟨by rfl, ?_⟩) ?_ ?_
        rotate_left
        · intro w'
          go_simp
          with_reducible rfl
        rotate_left
        · simp only [Act.put, List.setIfInBounds_toArray, List.set_cons_zero, List.set_cons_succ, i64_w, i32_w]
          rfl
        refine pure_ (i := 4) (N := some 110) (v := ?_) (a' := ?_) #[true, true, false, true, true, false, false, false, false] rfl rfl (any_of HT_.out (by kernel_rfl)) (fun _ _ _ h => h) (Or.inl ⟨by rfl, ?_⟩) ?_ ?_
        rotate_left
        · intro w'
          go_simp
          with_reducible rfl
        rotate_left
        · simp only [Act.put, List.setIfInBounds_toArray, List.set_cons_zero, List.set_cons_succ, i64_w, i32_w]
          rfl
        refine take_ (i := 2) (N := some 108) (v := ?_) (a' := ?_) #[true, true, true, true, true, false, false, false, false] rfl rfl (take_ofW HT_.out HW_.out (by kernel_rfl)) (fun _ _ _ h => h) (Or.inl ⟨by rfl, ?_⟩) hHeld ?_ ?_
        rotate_left
        · rintro w' ⟨s0, s1⟩
          have y0 : w'.cell? ⟨g7, 6, none⟩ = some (.int .u32 (enc X.g)) := (blk_cell s0 6).trans rfl
          have y1 : w'.cell? ⟨g3, 6, none⟩ = some (.int .u32 (enc h.g)) := (blk_cell s1 6).trans rfl
          go_simp
          with_reducible rfl
        rotate_left
        · simp only [Act.put, List.setIfInBounds_toArray, List.set_cons_zero, List.set_cons_succ, i64_w, i32_w]
          rfl
        refine take_ (i := 5) (N := some 111) (v := ?_) (a' := ?_) #[true, true, true, true, true, true, false, false, false] rfl rfl (take_ofW HT_.out HW_.out (by kernel_rfl)) (fun _ _ _ h => h) (Or.inl ⟨by rfl, ?_⟩) hHeld ?_ ?_
        rotate_left
        · rintro w' ⟨s0, s1⟩
          have y0 : w'.cell? ⟨g7, 6, none⟩ = some (.int .u32 (enc X.g)) := (blk_cell s0 6).trans rfl
          have y1 : w'.cell? ⟨g3, 6, none⟩ = some (.int .u32 (enc h.g)) := (blk_cell s1 6).trans rfl
          go_simp
          with_reducible rfl
        rotate_left
        · simp only [Act.put, List.setIfInBounds_toArray, List.set_cons_zero, List.set_cons_succ, i64_w, i32_w]
          rfl
        refine pure_ (i := 6) (N := some 112) (v := ?_) (a' := ?_) #[true, true, true, true, true, true, true, false, false] rfl rfl (any_of HT_.out (by kernel_rfl)) (fun _ _ _ h => h) (Or.inl ⟨by rfl, ?_⟩) ?_ ?_
        rotate_left
        · intro w'
          go_simp
          with_reducible rfl
        rotate_left
        · simp only [Act.put, List.setIfInBounds_toArray, List.set_cons_zero, List.set_cons_succ, i64_w, i32_w]
          rfl
        refine pure_ (i := 7) (N := some 113) (v := ?_) (a' := ?_) #[true, true, true, true, true, true, true, true, false] rfl rfl (any_of HT_.out (by kernel_rfl)) (fun _ _ _ h => h) (Or.inl ⟨by rfl, ?_⟩) ?_ ?_
        rotate_left
        · intro w'
          go_simp
          with_reducible rfl
        rotate_left
        · simp only [Act.put, List.setIfInBounds_toArray, List.set_cons_zero, List.set_cons_succ, i64_w, i32_w]
          rfl
        refine last_ (i := 8) (N := none) #[true, true, true, true, true, true, true, true, true] rfl rfl (one_of HT_.out (by kernel_rfl)) (by decide) (fun K hK => ?_)
        have hz : wR.cell? ⟨g7, 6, none⟩ = some (.int .u32 (enc X.g)) := (blk_cell C7.out 6).trans rfl
        have hf := blk_frozen C7.out 6
        refine skip_ (w1 := ?_) (by rfl) rfl ?_ ?_
        rotate_left
        · go_simp
          rfl
        refine hK.out _ _ ?_
        clear hK K
        refine done_ (done_of HT_.out (by kernel_rfl)) ?_
        go_wp2
        go_roundw
        case rel => exact ⟨7, by omega, by go_num, ⟨blk_put C7.out 6 _ rfl⟩, ⟨blk_far CK.out (p := ⟨g7, 6, none⟩) NK7.out _⟩, ⟨blk_far C3.out (p := ⟨g7, 6, none⟩) N37.out _⟩, ⟨blk_far C6.out (p := ⟨g7, 6, none⟩) N67.out _⟩, ⟨below_set' D0.out G7.out⟩⟩
        case measure => simp [intOf]
      · have q8 : (((7 : Nat) : Int) < 8) = True := eq_true (by omega)
        go_upto_region 15 with (fail)
        refine start_ (n := 9) (S := fun W => W.heap[g7]? = some (.cells (vals (lst (pl X h 7))) 50 (0, 0)) ∧ W.heap[g3]? = some (.cells (vals (lst h)) 50 (0, 0))) (ds := [8]) #[false, false, false, false, false, false, false, false, false] (by kernel_rfl) rfl rfl ⟨blk_drew C7.out, blk_drew C3.out⟩ (fun hHeld => ?_); refine with_tabW tur.tab15 tur.bits15 (fun HT_ HW_ => ?_)
        have n_C7 := Aside0.mk (blk_drew C7.out)
        have n_CK := Aside0.mk (blk_drew CK.out)
        have n_C3 := Aside0.mk (blk_drew C3.out)
        have n_C6 := Aside0.mk (blk_drew C6.out)
        have n_D0 := Aside0.mk (below_drew1 D0.out)
        clear C7 CK C3 C6 D0
        have C7 := n_C7
        have CK := n_CK
        have C3 := n_C3
        have C6 := n_C6
        have D0 := n_D0
        clear n_C7 n_CK n_C3 n_C6 n_D0
        generalize World.drew _ = wR at C7 CK C3 C6 D0 hHeld ⊢
        refine pure_ (i := 0) (N := some 106) (v := ?_) (a' := ?_) #[true, false, false, false, false, false, false, false, false] rfl rfl (any_of HT_.out (by kernel_rfl)) (fun _ _ _ h => h) (Or.inl ⟨by rfl, ?_⟩) ?_ ?_
        rotate_left
        · intro w'
          go_simp
          with_reducible rfl
        rotate_left
        · simp only [Act.put, List.setIfInBounds_toArray, List.set_cons_zero, List.set_cons_succ, i64_w, i32_w]
          rfl
        refine pure_ (i := 1) (N := some 107) (v := ?_) (a' := ?_) #[true, true, false, false, false, false, false, false, false] rfl rfl (any_of HT_.out (by kernel_rfl)) (fun _ _ _ h => h) (Or.inl ⟨by rfl, ?_⟩) ?_ ?_
        rotate_left
        · intro w'
          go_simp
          with_reducible rfl
        rotate_left
        · simp only [Act.put, List.setIfInBounds_toArray, List.set_cons_zero, List.set_cons_succ, i64_w, i32_w]
          rfl
        refine pure_ (i := 3) (N := some 109) (v := ?_) (a' := ?_) #[true, true, false, true, false, false, false, false, false] rfl rfl (any_of HT_.out (by kernel_rfl)) (fun _ _ _ h => h) (Or.inl ⟨by rfl, ?_⟩) ?_ ?_
        rotate_left
        · intro w'
          go_simp
          with_reducible rfl
        rotate_left
        · simp only [Act.put, List.setIfInBounds_toArray, List.set_cons_zero, List.set_cons_succ, i64_w, i32_w]
          rfl
        refine pure_ (i := 4) (N := some 110) (v := ?_) (a' := ?_) #[true, true, false, true, true, false, false, false, false] rfl rfl (any_of HT_.out (by kernel_rfl)) (fun _ _ _ h => h) (Or.inl ⟨by rfl, ?_⟩) ?_ ?_
        rotate_left
        · intro w'
          go_simp
          with_reducible rfl
        rotate_left
        · simp only [Act.put, List.setIfInBounds_toArray, List.set_cons_zero, List.set_cons_succ, i64_w, i32_w]
          rfl
        refine take_ (i := 2) (N := some 108) (v := ?_) (a' := ?_) #[true, true, true, true, true, false, false, false, false] rfl rfl (take_ofW HT_.out HW_.out (by kernel_rfl)) (fun _ _ _ h => h) (Or.inl ⟨by rfl, ?_⟩) hHeld ?_ ?_
        rotate_left
        · rintro w' ⟨s0, s1⟩
          have y0 : w'.cell? ⟨g7, 7, none⟩ = some (.int .u32 (enc X.h)) := (blk_cell s0 7).trans rfl
          have y1 : w'.cell? ⟨g3, 7, none⟩ = some (.int .u32 (enc h.h)) := (blk_cell s1 7).trans rfl
          go_simp
          with_reducible rfl
        rotate_left
        · simp only [Act.put, List.setIfInBounds_toArray, List.set_cons_zero, List.set_cons_succ, i64_w, i32_w]
          rfl
        refine take_ (i := 5) (N := some 111) (v := ?_) (a' := ?_) #[true, true, true, true, true, true, false, false, false] rfl rfl (take_ofW HT_.out HW_.out (by kernel_rfl)) (fun _ _ _ h => h) (Or.inl ⟨by rfl, ?_⟩) hHeld ?_ ?_
        rotate_left
        · rintro w' ⟨s0, s1⟩
          have y0 : w'.cell? ⟨g7, 7, none⟩ = some (.int .u32 (enc X.h)) := (blk_cell s0 7).trans rfl
          have y1 : w'.cell? ⟨g3, 7, none⟩ = some (.int .u32 (enc h.h)) := (blk_cell s1 7).trans rfl
          go_simp
          with_reducible rfl
        rotate_left
        · simp only [Act.put, List.setIfInBounds_toArray, List.set_cons_zero, List.set_cons_succ, i64_w, i32_w]
          rfl
        refine pure_ (i := 6) (N := some 112) (v := ?_) (a' := ?_) #[true, true, true, true, true, true, true, false, false] rfl rfl (any_of HT_.out (by kernel_rfl)) (fun _ _ _ h => h) (Or.inl ⟨by rfl, ?_⟩) ?_ ?_
        rotate_left
        · intro w'
          go_simp
          with_reducible rfl
        rotate_left
        · simp only [Act.put, List.setIfInBounds_toArray, List.set_cons_zero, List.set_cons_succ, i64_w, i32_w]
          rfl
        refine pure_ (i := 7) (N := some 113) (v := ?_) (a' := ?_) #[true, true, true, true, true, true, true, true, false] rfl rfl (any_of HT_.out (by kernel_rfl)) (fun _ _ _ h => h) (Or.inl ⟨by rfl, ?_⟩) ?_ ?_
        rotate_left
        · intro w'
          go_simp
          with_reducible rfl
        rotate_left
        · simp only [Act.put, List.setIfInBounds_toArray, List.set_cons_zero, List.set_cons_succ, i64_w, i32_w]
          rfl
        refine last_ (i := 8) (N := none) #[true, true, true, true, true, true, true, true, true] rfl rfl (one_of HT_.out (by kernel_rfl)) (by decide) (fun K hK => ?_)
        have hz : wR.cell? ⟨g7, 7, none⟩ = some (.int .u32 (enc X.h)) := (blk_cell C7.out 7).trans rfl
        have hf := blk_frozen C7.out 7
        refine skip_ (w1 := ?_) (by rfl) rfl ?_ ?_
        rotate_left
        · go_simp
          rfl
        refine hK.out _ _ ?_
        clear hK K
        refine done_ (done_of HT_.out (by kernel_rfl)) ?_
        go_wp2
        go_roundw
        case rel => exact ⟨8, by omega, by go_num, ⟨blk_put C7.out 7 _ rfl⟩, ⟨blk_far CK.out (p := ⟨g7, 7, none⟩) NK7.out _⟩, ⟨blk_far C3.out (p := ⟨g7, 7, none⟩) N37.out _⟩, ⟨blk_far C6.out (p := ⟨g7, 7, none⟩) N67.out _⟩, ⟨below_set' D0.out G7.out⟩⟩
        case measure => simp [intOf]
      · have q8 : (((8 : Nat) : Int) < 8) = False := eq_false (by omega)
        have hv : (vals (lst (pl X h 8))).size = 8 := rfl
        go_wp2_with (first
          | ((with_reducible refine gate_dst (N := 115) rfl ?_); refine wpList_load_row rfl 50 (.tmp 7) rfl g7 rfl 50 (vals (lst (pl X h 8))) (0, 0) _ C7.out Try.underlying50 rfl (by rw [hv]; exact i46) ?_)
          | ((with_reducible refine gate_store rfl ?_); refine wpList_store_row rfl 50 (.tmp 6) (.tmp 115) rfl g6 (vals (lst (pl X h 8))) rfl rfl 50 _ C6.out (by rw [hv]; exact i46) rfl (vals_one _) ?_))
        refine bodyPost_ret (results_cell_row (fn := Try.f41) rfl _ _ g6 50 (vals (lst (pl X h 8))) (0, 0) _ rfl (setRow_heap _ g6 _ _ 50 _ C6.out) Try.underlying50 rfl (by rw [hv]; exact i46)) rfl ?_
        refine ⟨?_, below_setRow D0.out G6.out _⟩
        unfold turn
        rw [← HWS.out, ← HX.out]; rfl
end Go.Proofs.Ythpnppfpmhlkaaa.Sha
