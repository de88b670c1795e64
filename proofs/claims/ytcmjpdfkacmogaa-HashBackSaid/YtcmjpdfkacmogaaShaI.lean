/- Chapter 2: HashBack, walked. -/
import Derived.Test.YtcmjpdfkacmogaaShaZ
import Derived.Test.YtcmjpdfkacmogaaShaG
namespace Go.Proofs.Ytcmjpdfkacmogaa.Sha
open Go.RowKit Go.Proofs.Ytcmjpdfkacmogaa.X Go.Proofs.YtcmjpdfkacmogaaW.PrintWords Go.Proofs.YtcmjpdfkacmogaaW.PrintLast Go.Proofs.YtcmjpdfkacmogaaW.PrintMore
set_option linter.unusedVariables false
set_option linter.unusedSimpArgs false

def bk14.T14 : Bool × List (List Nat × List Nat) := (true, [([], []), ([], []), ([0, 1], [0, 1]), ([], []), ([3], [3]), ([4], [4]), ([2, 5], [2, 5]), ([], []), ([], []), ([8], [8]), ([7, 9], [7, 9]), ([6, 10], [6, 10]), ([11], [11]), ([12], [12]), ([13], [13]), ([13], [13]), ([], []), ([16, 14, 12, 0, 1, 2, 3, 4, 5, 6, 7, 8, 9, 10, 11, 12, 13, 14, 16], [14, 16]), ([15, 17, 0, 1, 2, 3, 4, 5, 6, 7, 8, 9, 10, 11, 12, 13, 14, 15, 16, 17], [15])])
def bk14.B14 : List Nat := [0, 0, 3, 0, 8, 24, 63, 0, 0, 256, 896, 2047, 4095, 8191, 16383, 16383, 0, 98303, 262143]
theorem bk14.tab14 : rtab .any (opsOf Try.f7 14) = bk14.T14 := by kernel_rfl
theorem bk14.bits14 : waitsOk bk14.T14.2 bk14.B14 = true := by kernel_rfl
theorem conv_one {W : World} {g : Nat} {c : UInt8} (h : W.heap[g]? = some (.cells #[.int .u8 (c.toNat : Int)] 5 (0, 0))) : (convert 43 9 (.slice (some ⟨g, 0, none⟩) 1 1)).run Try.prog W = .ok (.string (tx [c])) W := by
  refine run_convert_bytes_back W 43 9 5 _ 1 [c] Try.underlying43 Try.underlying5 Try.underlying9 (fun j hj => ?_)
  have hj0 : j = 0 := by simpa using hj
  subst hj0
  have hadd : (⟨g, 0, none⟩ : Addr).add 0 = ⟨g, 0, none⟩ := by unfold Addr.add; rfl
  rw [hadd, blk_cell h]; rfl
theorem sign64 (a : Int) : ∃ k : Nat, k < 64 ∧ ((∃ x : Int, a.tmod 64 = x ∧ (x < 0) = True ∧ wrap64 (-x) = (k : Int)) ∨ (∃ x : Int, a.tmod 64 = (k : Int) ∧ ((k : Int) < 0) = False ∧ x = 0)) := by
  have h1 := Int.tmod_lt_of_pos a (show (0 : Int) < 64 by decide)
  have h2 := Int.lt_tmod_of_pos a (show (0 : Int) < 64 by decide)
  by_cases h : 0 ≤ a.tmod 64
  · exact ⟨(a.tmod 64).toNat, by omega, .inr ⟨0, by omega, eq_false (by omega), rfl⟩⟩
  · exact ⟨(-(a.tmod 64)).toNat, by omega, .inl ⟨_, rfl, eq_true (by omega), by unfold wrap64; omega⟩⟩
theorem digit_cases (c : UInt8) : (((48 : Int) ≤ (c.toNat : Int)) = False ∧ ((c.toNat : Int) ≤ 57) = True ∧ ((97 : Int) ≤ (c.toNat : Int)) = False ∧ ((c.toNat : Int) ≤ 102) = True ∧ okd c = false)
    ∨ (((48 : Int) ≤ (c.toNat : Int)) = True ∧ ((c.toNat : Int) ≤ 57) = True ∧ ((97 : Int) ≤ (c.toNat : Int)) = False ∧ ((c.toNat : Int) ≤ 102) = True ∧ okd c = true)
    ∨ (((48 : Int) ≤ (c.toNat : Int)) = True ∧ ((c.toNat : Int) ≤ 57) = False ∧ ((97 : Int) ≤ (c.toNat : Int)) = False ∧ ((c.toNat : Int) ≤ 102) = True ∧ okd c = false)
    ∨ (((48 : Int) ≤ (c.toNat : Int)) = True ∧ ((c.toNat : Int) ≤ 57) = False ∧ ((97 : Int) ≤ (c.toNat : Int)) = True ∧ ((c.toNat : Int) ≤ 102) = True ∧ okd c = true)
    ∨ (((48 : Int) ≤ (c.toNat : Int)) = True ∧ ((c.toNat : Int) ≤ 57) = False ∧ ((97 : Int) ≤ (c.toNat : Int)) = True ∧ ((c.toNat : Int) ≤ 102) = False ∧ okd c = false) := by
  have h := okd_digit c
  by_cases h1 : 48 ≤ c.toNat
  · by_cases h2 : c.toNat ≤ 57
    · exact .inr (.inl ⟨eq_true (by omega), eq_true (by omega), eq_false (by omega), eq_true (by omega), by rw [h]; simp; omega⟩)
    · by_cases h3 : 97 ≤ c.toNat
      · by_cases h4 : c.toNat ≤ 102
        · exact .inr (.inr (.inr (.inl ⟨eq_true (by omega), eq_false (by omega), eq_true (by omega), eq_true (by omega), by rw [h]; simp; omega⟩)))
        · exact .inr (.inr (.inr (.inr ⟨eq_true (by omega), eq_false (by omega), eq_true (by omega), eq_false (by omega), by rw [h]; simp; omega⟩)))
      · exact .inr (.inr (.inl ⟨eq_true (by omega), eq_false (by omega), eq_false (by omega), eq_true (by omega), by rw [h]; simp; omega⟩))
  · exact .inl ⟨eq_false (by omega), eq_true (by omega), eq_false (by omega), eq_true (by omega), by rw [h]; simp; omega⟩
set_option maxHeartbeats 8000000 in
set_option maxRecDepth 100000 in
theorem back_walk (h : List UInt8) (hh : h.length = 32) (s : ByteArray) (a : Int) (c : UInt8) (w : World) :
    Calls Try.prog 7 #[B32 h, .string s, .int .i64 a, .int .u8 (c.toNat : Int)] w fun e w' => e = .returned (.bool true) ∧ Below w.heap.size w w' := by
  obtain ⟨l, rfl, hl⟩ := tx_of s
  obtain ⟨y, hy⟩ : ∃ y, y = (parF l).1 := ⟨_, rfl⟩
  obtain ⟨ok, hok⟩ : ∃ b, b = (parF l).2 := ⟨_, rfl⟩
  have hyl : y.length = 32 := by rw [hy]; exact parF_len l
  obtain ⟨TD, hTD⟩ : ∃ T, T = tx (hexF h) := ⟨_, rfl⟩
  have hTDs : TD.size = 64 := by rw [hTD, tx_size, hexF_len, hh]
  have HX : ∀ W : World, Calls Try.prog 18 #[.agg (brw 32 h)] W fun e w' => e = .returned (.string TD) ∧ Below W.heap.size W w' := fun W => by rw [← B32_brw h hh, hTD]; exact hex_calls h hh W
  have HP1 : ∀ W : World, Calls Try.prog 16 #[.string TD] W fun e w' => e = .returned (.tuple #[.agg (brw 32 h), .bool true]) ∧ Below W.heap.size W w' := fun W => by
    have := parse_calls (hexF h) W
    rw [par_hex h hh] at this
    rw [← B32_brw h hh, hTD]; exact this
  have HP2 : ∀ W : World, Calls Try.prog 16 #[.string (tx l)] W fun e w' => e = .returned (.tuple #[.agg (brw 32 y), .bool ok]) ∧ Below W.heap.size W w' := fun W => by rw [← B32_brw y hyl, hy, hok]; exact parse_calls l W
  have HX2 : ok = true → ∀ W : World, Calls Try.prog 18 #[.agg (brw 32 y)] W fun e w' => e = .returned (.string (tx l)) ∧ Below W.heap.size W w' := fun ho W => by
    have := hex_calls y hyl W
    have e : hexF y = l := by rw [hy]; exact par_back l (by rw [← hok]; exact ho)
    rw [e] at this
    rw [← B32_brw y hyl]; exact this
  have heqh := eq32 h h hh hh
  rw [decide_eq_true rfl, B32_brw h hh] at heqh
  have hno : ok = false → y = List.replicate 32 0 := fun ho => by rw [hy]; exact par_no l (by rw [← hok]; exact ho)
  have i24 : (Try.prog.info? 24).map (·.size) = some 32 := by kernel_rfl
  have hzh : (brw 32 h).size = 32 := brw_size 32 h (by omega)
  have hzy : (brw 32 y).size = 32 := brw_size 32 y (by omega)
  have hz0 : (brw 32 []).size = 32 := rfl
  rw [B32_brw h hh]
  clear hy hok hl
  have HTD := Aside0.mk hTD
  clear hTD
  obtain ⟨k, hk, hsign⟩ := sign64 a
  have hD64 : (hexF h).length = 64 := by rw [hexF_len, hh]
  obtain ⟨X1, hX1⟩ : ∃ X, X = tx ((hexF h).take k) := ⟨_, rfl⟩
  obtain ⟨XB, hXB⟩ : ∃ X, X = tx [c] := ⟨_, rfl⟩
  obtain ⟨X2, hX2⟩ : ∃ X, X = tx ((hexF h).drop (k + 1)) := ⟨_, rfl⟩
  obtain ⟨X3, hX3⟩ : ∃ X, X = tx ((hexF h).take k ++ [c]) := ⟨_, rfl⟩
  obtain ⟨X4, hX4⟩ : ∃ X, X = tx ((hexF h).take k ++ [c] ++ (hexF h).drop (k + 1)) := ⟨_, rfl⟩
  obtain ⟨X5, hX5⟩ : ∃ X, X = tx (hexF h ++ (hexF h).take k) := ⟨_, rfl⟩
  obtain ⟨X6, hX6⟩ : ∃ X, X = tx (hexF h ++ (hexF h).take k ++ [48]) := ⟨_, rfl⟩
  have e1 : TD.extract 0 k = X1 := by rw [HTD.out, tx_upto, hX1]
  obtain ⟨k1, hk1⟩ : ∃ k1, k1 = k + 1 := ⟨_, rfl⟩
  have hkw : wrap64 ((k : Int) + 1) = (k1 : Int) := by unfold wrap64; omega
  have hk64 : (k ≤ 64) = True := eq_true (by omega)
  have hk64' : ((k : Int) ≤ 64) = True := eq_true (by omega)
  have hk164 : (k1 ≤ 64) = True := eq_true (by omega)
  have hk164' : ((k1 : Int) ≤ 64) = True := eq_true (by omega)
  have e2 : TD.extract k1 64 = X2 := by
    have := tx_from (hexF h) (k + 1)
    rw [tx_size, hD64] at this
    rw [hk1, HTD.out, this, hX2]
  have e3 : X1 ++ XB = X3 := by rw [hX1, hXB, hX3, tx_append]
  have e4 : X3 ++ X2 = X4 := by rw [hX3, hX2, hX4, tx_append]
  have e5 : TD ++ X1 = X5 := by rw [HTD.out, hX1, hX5, tx_append]
  have e6 : X5 ++ (⟨#[48]⟩ : ByteArray) = X6 := by rw [hX5, hX6]; exact tx_append _ [48]
  have s1 : X1.size = k := by rw [hX1, tx_size, List.length_take]; omega
  have sB : XB.size = 1 := by rw [hXB, tx_size]; rfl
  have s2 : X2.size = 63 - k := by rw [hX2, tx_size, List.length_drop]; omega
  have s3 : X3.size = k + 1 := by rw [hX3, tx_size, List.length_append, List.length_take, List.length_singleton]; omega
  have s5 : X5.size = 64 + k := by rw [hX5, tx_size, List.length_append, List.length_take]; omega
  have CV : ∀ (W : World) (g : Nat), W.heap[g]? = some (.cells #[.int .u8 (c.toNat : Int)] 5 (0, 0)) → (convert 43 9 (.slice (some ⟨g, 0, none⟩) 1 1)).run Try.prog W = .ok (.string XB) W := fun W g hg => by rw [hXB]; exact conv_one hg
  obtain ⟨z, hz⟩ : ∃ z, z = (parF ((hexF h).take k ++ [c] ++ (hexF h).drop (k + 1))).1 := ⟨_, rfl⟩
  have hzl : z.length = 32 := by rw [hz]; exact parF_len _
  have HP3 : ∀ W : World, Calls Try.prog 16 #[.string X4] W fun e w' => e = .returned (.tuple #[.agg (brw 32 z), .bool (okd c)]) ∧ Below W.heap.size W w' := fun W => by
    have := parse_calls ((hexF h).take k ++ [c] ++ (hexF h).drop (k + 1)) W
    rw [par_one h hh k hk c, ← hz, B32_brw z hzl, ← hX4] at this
    exact this
  have hzz : okd c = false → z = List.replicate 32 0 := fun ho => by rw [hz]; exact par_no _ (by rw [par_one h hh k hk c]; exact ho)
  have HP4 : ∀ W : World, Calls Try.prog 16 #[.string X1] W fun e w' => e = .returned (.tuple #[.agg (brw 32 (List.replicate 32 0)), .bool false]) ∧ Below W.heap.size W w' := fun W => by
    have hn := par_len ((hexF h).take k) (by rw [List.length_take]; omega)
    have := parse_calls ((hexF h).take k) W
    rw [hn, par_no _ hn, B32_brw _ (by decide), ← hX1] at this
    exact this
  have HP5 : ∀ W : World, Calls Try.prog 16 #[.string X6] W fun e w' => e = .returned (.tuple #[.agg (brw 32 (List.replicate 32 0)), .bool false]) ∧ Below W.heap.size W w' := fun W => by
    have hn := par_len (hexF h ++ (hexF h).take k ++ [48]) (by rw [List.length_append, List.length_append, List.length_take, List.length_singleton]; omega)
    have := parse_calls (hexF h ++ (hexF h).take k ++ [48]) W
    rw [hn, par_no _ hn, B32_brw _ (by decide), ← hX6] at this
    exact this
  obtain ⟨Z, hZ⟩ : ∃ Z, Z = List.replicate 32 (0 : UInt8) := ⟨_, rfl⟩
  have hZl : Z.length = 32 := by rw [hZ]; rfl
  have hzZ : (brw 32 Z).size = 32 := brw_size 32 Z (by omega)
  have hzz32 : (brw 32 z).size = 32 := brw_size 32 z (by omega)
  have heqZ := eq32 Z Z hZl hZl
  rw [decide_eq_true rfl, B32_brw Z hZl] at heqZ
  rw [← hZ] at HP4 HP5 hno hzz
  have HZ := Aside0.mk hZ
  have heqz : ∀ W : World, (Op.equalIn 10000 24 (.agg (brw 32 z)) (.agg #[.int .u8 0, .int .u8 0, .int .u8 0, .int .u8 0, .int .u8 0, .int .u8 0, .int .u8 0, .int .u8 0, .int .u8 0, .int .u8 0, .int .u8 0, .int .u8 0, .int .u8 0, .int .u8 0, .int .u8 0, .int .u8 0, .int .u8 0, .int .u8 0, .int .u8 0, .int .u8 0, .int .u8 0, .int .u8 0, .int .u8 0, .int .u8 0, .int .u8 0, .int .u8 0, .int .u8 0, .int .u8 0, .int .u8 0, .int .u8 0, .int .u8 0, .int .u8 0])).run Try.prog W = .ok (decide (z = Z)) W := fun W => by
    have := eq32 z Z hzl hZl W
    rw [B32_brw z hzl, B32_brw Z hZl, HZ.out] at this
    rw [HZ.out]
    exact this
  have t1 : (k + 1 ≤ 9223372036854775807) = True := eq_true (by omega)
  have t2 : (k + 1 + (63 - k) ≤ 9223372036854775807) = True := eq_true (by omega)
  have t3 : (64 + k ≤ 9223372036854775807) = True := eq_true (by omega)
  have t4 : (64 + k + 1 ≤ 9223372036854775807) = True := eq_true (by omega)
  have u1 : (9223372036854775807 < k + 1) = False := eq_false (by omega)
  have u2 : (9223372036854775807 < k + 1 + (63 - k)) = False := eq_false (by omega)
  have u3 : (9223372036854775807 < 64 + k) = False := eq_false (by omega)
  have u4 : (9223372036854775807 < 64 + k + 1) = False := eq_false (by omega)
  clear hk1
  clear hX1 hXB hX2 hX3 hX4 hX5 hX6 hz hZ hD64
  go_enter Try.func7, Try.ntmps7
  go_upto_region 1 with (fail)
  change Code.wp _ _ _ _ (w.alloc (.cells (brw 32 h) 24))
  have C4 : Aside0 ((w.alloc (.cells (brw 32 h) 24)).heap[w.heap.size]? = some (.cells (brw 32 h) 24 (0, 0))) := ⟨blk_new _ _⟩
  have D0 := Aside0.mk (below_alloc (Below.refl w.heap.size w) (.cells (brw 32 h) 24))
  generalize w.alloc (.cells (brw 32 h) 24) = w1 at C4 D0 ⊢
  obtain ⟨g4, hg4⟩ : ∃ g, g = w.heap.size := ⟨_, rfl⟩
  have P4 : (Value.pointer (some ⟨w.heap.size, 0, none⟩)) = .pointer (some ⟨g4, 0, none⟩) := by rw [hg4]
  rw [P4]
  rw [← hg4] at C4
  clear P4 hg4
  go_upto_region 5 with (first
    | (go_at_call 9; (with_reducible refine (head_calls _).mono ?_); rintro e w2 ⟨rfl, hb⟩; have n_C4 := Aside0.mk (blk_below C4.out hb); have n_D0 := Aside0.mk (below_then D0.out D0.out.size hb); clear C4 D0 hb; have C4 := n_C4; have D0 := n_D0; clear n_C4 n_D0)
    | ((with_reducible refine gate_dst (N := 24) rfl ?_); refine wpList_load_row rfl 24 (.tmp 4) rfl g4 rfl 24 (brw 32 h) (0, 0) _ C4.out Try.underlying24 rfl (by rw [hzh]; exact i24) ?_)
    | (go_at_call 18; (with_reducible refine (HX _).mono ?_); rintro e w3 ⟨rfl, hb⟩; have n_C4 := Aside0.mk (blk_below C4.out hb); have n_D0 := Aside0.mk (below_then D0.out D0.out.size hb); clear C4 D0 hb; have C4 := n_C4; have D0 := n_D0; clear n_C4 n_D0)
    | (go_at_call 16; (with_reducible refine (HP1 _).mono ?_); rintro e w4 ⟨rfl, hb⟩; have n_C4 := Aside0.mk (blk_below C4.out hb); have n_D0 := Aside0.mk (below_then D0.out D0.out.size hb); clear C4 D0 hb; have C4 := n_C4; have D0 := n_D0; clear n_C4 n_D0)
    | ((with_reducible refine gate_store rfl ?_); refine wpList_store_row rfl 24 (.tmp 10) (.tmp 29) rfl w4.heap.size (brw 32 h) rfl rfl 24 (brw 32 []) (blk_new _ _) (by rw [hzh]; exact i24) (by rw [hzh, hz0]) (brw_one _ _) ?_))
  change Code.wp _ _ _ _ ((w4.alloc (.cells (brw 32 []) 24)).setRow w4.heap.size (brw 32 h))
  have hq := below_setRow (below_alloc (Below.refl w4.heap.size w4) (.cells (brw 32 []) 24)) (Nat.le_refl _) (brw 32 h)
  have C10 := Aside0.mk (setRow_heap _ w4.heap.size _ (brw 32 h) _ _ (blk_new w4 (.cells (brw 32 []) 24)))
  have n_C4 := Aside0.mk (blk_below C4.out hq)
  have n_D0 := Aside0.mk (below_setRow (below_alloc D0.out (.cells (brw 32 []) 24)) D0.out.size (brw 32 h))
  clear C4 D0 hq
  have C4 := n_C4
  have D0 := n_D0
  clear n_C4 n_D0
  obtain ⟨g10, hg10⟩ : ∃ g, g = w4.heap.size := ⟨_, rfl⟩
  have P10 : (Value.pointer (some ⟨w4.heap.size, 0, none⟩)) = .pointer (some ⟨g10, 0, none⟩) := by rw [hg10]
  rw [P10]
  generalize (w4.alloc (.cells (brw 32 []) 24)).setRow w4.heap.size (brw 32 h) = w5 at C4 C10 D0 ⊢
  rw [← hg10] at C10
  clear P10 hg10
  go_upto_region 8 with (first
    | ((with_reducible refine gate_dst (N := 34) rfl ?_); refine gate_guard (by rfl) ?_; refine wpList_load_row rfl 24 (.tmp 10) rfl g10 rfl 24 (brw 32 h) (0, 0) _ C10.out Try.underlying24 rfl (by rw [hzh]; exact i24) ?_)
    | ((with_reducible refine gate_dst (N := 35) rfl ?_); refine gate_guard (by rfl) ?_; refine wpList_load_row rfl 24 (.tmp 4) rfl g4 rfl 24 (brw 32 h) (0, 0) _ C4.out Try.underlying24 rfl (by rw [hzh]; exact i24) ?_)
    | (go_at_call 16; (with_reducible refine (HP2 _).mono ?_); rintro e w6 ⟨rfl, hb⟩; have n_C4 := Aside0.mk (blk_below C4.out hb); have n_D0 := Aside0.mk (below_then D0.out D0.out.size hb); clear C4 D0 hb C10; have C4 := n_C4; have D0 := n_D0; clear n_C4 n_D0)
    | ((with_reducible refine gate_store rfl ?_); refine wpList_store_row rfl 24 (.tmp 12) (.tmp 46) rfl w6.heap.size (brw 32 y) rfl rfl 24 (brw 32 []) (blk_new _ _) (by rw [hzy]; exact i24) (by rw [hzy, hz0]) (brw_one _ _) ?_))
  change Code.wp _ _ _ _ ((w6.alloc (.cells (brw 32 []) 24)).setRow w6.heap.size (brw 32 y))
  have hq := below_setRow (below_alloc (Below.refl w6.heap.size w6) (.cells (brw 32 []) 24)) (Nat.le_refl _) (brw 32 y)
  have C12 := Aside0.mk (setRow_heap _ w6.heap.size _ (brw 32 y) _ _ (blk_new w6 (.cells (brw 32 []) 24)))
  have n_C4 := Aside0.mk (blk_below C4.out hq)
  have n_D0 := Aside0.mk (below_setRow (below_alloc D0.out (.cells (brw 32 []) 24)) D0.out.size (brw 32 y))
  clear C4 D0 hq
  have C4 := n_C4
  have D0 := n_D0
  clear n_C4 n_D0
  obtain ⟨g12, hg12⟩ : ∃ g, g = w6.heap.size := ⟨_, rfl⟩
  have P12 : (Value.pointer (some ⟨w6.heap.size, 0, none⟩)) = .pointer (some ⟨g12, 0, none⟩) := by rw [hg12]
  rw [P12]
  generalize (w6.alloc (.cells (brw 32 []) 24)).setRow w6.heap.size (brw 32 y) = w7 at C4 C12 D0 ⊢
  rw [← hg12] at C12
  clear P12 hg12
  have n_D0 := Aside0.mk D0.out
  obtain ⟨TL, hTL⟩ : ∃ T, T = tx l := ⟨_, rfl⟩
  rw [← hTL] at HX2 ⊢
  clear hTL HP2 n_D0
  rcases ok with _ | _
  · have hyz := hno rfl
    have heqy : ∀ W : World, (Op.equalIn 10000 24 (.agg (brw 32 y)) (.agg #[.int .u8 0, .int .u8 0, .int .u8 0, .int .u8 0, .int .u8 0, .int .u8 0, .int .u8 0, .int .u8 0, .int .u8 0, .int .u8 0, .int .u8 0, .int .u8 0, .int .u8 0, .int .u8 0, .int .u8 0, .int .u8 0, .int .u8 0, .int .u8 0, .int .u8 0, .int .u8 0, .int .u8 0, .int .u8 0, .int .u8 0, .int .u8 0, .int .u8 0, .int .u8 0, .int .u8 0, .int .u8 0, .int .u8 0, .int .u8 0, .int .u8 0, .int .u8 0])).run Try.prog W = .ok true W := fun W => by
      have := heqZ W
      rw [hyz, HZ.out]
      rw [HZ.out] at this
      exact this
    clear HX2 hno hyl hyz
    go_upto_region 10 with ((with_reducible refine gate_dst (N := 59) rfl ?_); refine gate_guard (by rfl) ?_; refine wpList_load_row rfl 24 (.tmp 12) rfl g12 rfl 24 (brw 32 y) (0, 0) _ C12.out Try.underlying24 rfl (by rw [hzy]; exact i24) ?_)
    rcases hsign with ⟨x, q1, q2, q3⟩ | ⟨x, q1, q2, q3⟩ <;> (
      go_upto_region 13 with (fail)
      rename_i K13 aK13
      have TAIL : ∀ (uu0 uu1 uu2 uu4 uu5 uu6 uu7 uu8 uu10 uu11 uu12 uu13 uu16 uu17 uu18 uu19 uu20 uu21 uu22 uu23 uu24 uu25 uu26 uu27 uu28 uu29 uu30 uu31 uu32 uu33 uu34 uu35 uu36 uu37 uu38 uu39 uu40 uu41 uu42 uu43 uu44 uu45 uu46 uu47 uu48 uu49 uu50 uu51 uu52 uu53 uu54 uu55 uu56 uu57 uu58 uu59 uu60 uu61 uu62 uu63 uu64 uu65 uu66 uu67 uu68 uu69 uu70 uu71 uu72 uu73 uu74 uu75 uu76 uu77 uu78 uu79 uu80 uu81 uu82 uu83 uu84 uu85 uu86 uu87 uu88 uu89 uu90 uu91 uu92 uu93 uu94 uu95 uu96 uu97 uu98 uu99 uu100 uu101 uu102 uu103 uu104 uu105 uu106 uu107 uu108 uu109 uu110 uu111 uu112 uu113 uu114 uu115 uu116 uu117 uu118 uu119 uu120 uu121 uu122 uu123 uu124 uu125 uu126 uu127 uu128 uu129 uu130 uu131 uu132 uu133 uu134 uu135 : Value) (W13 : World), Below w.heap.size w W13 → K13 { tmps := #[uu0, uu1, uu2, .int .u8 (c.toNat : Int), uu4, uu5, uu6, uu7, uu8, .string TD, uu10, uu11, uu12, uu13, .int .i64 (k : Int), .bool (okd c), uu16, uu17, uu18, uu19, uu20, uu21, uu22, uu23, uu24, uu25, uu26, uu27, uu28, uu29, uu30, uu31, uu32, uu33, uu34, uu35, uu36, uu37, uu38, uu39, uu40, uu41, uu42, uu43, uu44, uu45, uu46, uu47, uu48, uu49, uu50, uu51, uu52, uu53, uu54, uu55, uu56, uu57, uu58, uu59, uu60, uu61, uu62, uu63, uu64, uu65, uu66, uu67, uu68, uu69, uu70, uu71, uu72, uu73, uu74, uu75, uu76, uu77, uu78, uu79, uu80, uu81, uu82, uu83, uu84, uu85, uu86, uu87, uu88, uu89, uu90, uu91, uu92, uu93, uu94, uu95, uu96, uu97, uu98, uu99, uu100, uu101, uu102, uu103, uu104, uu105, uu106, uu107, uu108, uu109, uu110, uu111, uu112, uu113, uu114, uu115, uu116, uu117, uu118, uu119, uu120, uu121, uu122, uu123, uu124, uu125, uu126, uu127, uu128, uu129, uu130, uu131, uu132, uu133, uu134, uu135], defers := [] } W13 := by
        intro uu0 uu1 uu2 uu4 uu5 uu6 uu7 uu8 uu10 uu11 uu12 uu13 uu16 uu17 uu18 uu19 uu20 uu21 uu22 uu23 uu24 uu25 uu26 uu27 uu28 uu29 uu30 uu31 uu32 uu33 uu34 uu35 uu36 uu37 uu38 uu39 uu40 uu41 uu42 uu43 uu44 uu45 uu46 uu47 uu48 uu49 uu50 uu51 uu52 uu53 uu54 uu55 uu56 uu57 uu58 uu59 uu60 uu61 uu62 uu63 uu64 uu65 uu66 uu67 uu68 uu69 uu70 uu71 uu72 uu73 uu74 uu75 uu76 uu77 uu78 uu79 uu80 uu81 uu82 uu83 uu84 uu85 uu86 uu87 uu88 uu89 uu90 uu91 uu92 uu93 uu94 uu95 uu96 uu97 uu98 uu99 uu100 uu101 uu102 uu103 uu104 uu105 uu106 uu107 uu108 uu109 uu110 uu111 uu112 uu113 uu114 uu115 uu116 uu117 uu118 uu119 uu120 uu121 uu122 uu123 uu124 uu125 uu126 uu127 uu128 uu129 uu130 uu131 uu132 uu133 uu134 uu135 W13 hW13
        have D0 := Aside0.mk hW13
        clear hW13
        refine aK13 _ _ ?_
        clear aK13
        go_upto_region 14 with (fail)
        refine start_ (n := 19) (S := fun _ => True) (ds := [17]) #[false, false, false, false, false, false, false, false, false, false, false, false, false, false, false, false, false, false, false] (by kernel_rfl) rfl rfl trivial (fun hHeld => ?_); refine with_tabW bk14.tab14 bk14.bits14 (fun HT_ HW_ => ?_)
        have n_D0 := Aside0.mk (below_drew1 D0.out)
        clear D0
        have D0 := n_D0
        clear n_D0
        generalize World.drew _ = wR at D0 hHeld ⊢
        refine pure_ (i := 0) (N := some 85) (v := ?_) (a' := ?_) #[true, false, false, false, false, false, false, false, false, false, false, false, false, false, false, false, false, false, false] rfl rfl (any_of HT_.out (by kernel_rfl)) (fun _ _ _ h => h) (Or.inl ⟨by rfl, ?_⟩) ?_ ?_
        rotate_left
        · intro w'
          go_simp
          with_reducible rfl
        rotate_left
        · simp only [Act.put, List.setIfInBounds_toArray, List.set_cons_zero, List.set_cons_succ, i64_w, i32_w]
          rfl
        refine pure_ (i := 1) (N := some 86) (v := ?_) (a' := ?_) #[true, true, false, false, false, false, false, false, false, false, false, false, false, false, false, false, false, false, false] rfl rfl (any_of HT_.out (by kernel_rfl)) (fun _ _ _ h => h) (Or.inl ⟨by rfl, ?_⟩) ?_ ?_
        rotate_left
        · intro w'
          go_simp
          with_reducible rfl
        rotate_left
        · simp only [Act.put, List.setIfInBounds_toArray, List.set_cons_zero, List.set_cons_succ, i64_w, i32_w]
          rfl
        refine pure_ (i := 2) (N := some 87) (v := ?_) (a' := ?_) #[true, true, true, false, false, false, false, false, false, false, false, false, false, false, false, false, false, false, false] rfl rfl (any_of HT_.out (by kernel_rfl)) (fun _ _ _ h => h) (Or.inl ⟨by rfl, ?_⟩) ?_ ?_
        rotate_left
        · intro w'
          go_simp
          with_reducible rfl
        rotate_left
        · simp only [Act.put, List.setIfInBounds_toArray, List.set_cons_zero, List.set_cons_succ, i64_w, i32_w]
          rfl
        refine pure_ (i := 3) (N := some 88) (v := ?_) (a' := ?_) #[true, true, true, true, false, false, false, false, false, false, false, false, false, false, false, false, false, false, false] rfl rfl (any_of HT_.out (by kernel_rfl)) (fun _ _ _ h => h) (Or.inl ⟨by rfl, ?_⟩) ?_ ?_
        rotate_left
        · intro w'
          go_simp
          with_reducible rfl
        rotate_left
        · simp only [Act.put, List.setIfInBounds_toArray, List.set_cons_zero, List.set_cons_succ, i64_w, i32_w]
          rfl
        refine pure_ (i := 7) (N := some 92) (v := ?_) (a' := ?_) #[true, true, true, true, false, false, false, true, false, false, false, false, false, false, false, false, false, false, false] rfl rfl (any_of HT_.out (by kernel_rfl)) (fun _ _ _ h => h) (Or.inl ⟨by rfl, ?_⟩) ?_ ?_
        rotate_left
        · intro w'
          go_simp
          with_reducible rfl
        rotate_left
        · simp only [Act.put, List.setIfInBounds_toArray, List.set_cons_zero, List.set_cons_succ, i64_w, i32_w]
          rfl
        refine pure_ (i := 8) (N := some 93) (v := ?_) (a' := ?_) #[true, true, true, true, false, false, false, true, true, false, false, false, false, false, false, false, false, false, false] rfl rfl (any_of HT_.out (by kernel_rfl)) (fun _ _ _ h => h) (Or.inl ⟨by rfl, ?_⟩) ?_ ?_
        rotate_left
        · intro w'
          go_simp
          with_reducible rfl
        rotate_left
        · simp only [Act.put, List.setIfInBounds_toArray, List.set_cons_zero, List.set_cons_succ, i64_w, i32_w]
          rfl
        refine pure_ (i := 9) (N := some 94) (v := ?_) (a' := ?_) #[true, true, true, true, false, false, false, true, true, true, false, false, false, false, false, false, false, false, false] rfl rfl (any_of HT_.out (by kernel_rfl)) (fun _ _ _ h => h) (Or.inl ⟨by rfl, ?_⟩) ?_ ?_
        rotate_left
        · intro w'
          go_simp
          with_reducible rfl
        rotate_left
        · simp only [Act.put, List.setIfInBounds_toArray, List.set_cons_zero, List.set_cons_succ, i64_w, i32_w]
          rfl
        refine pure_ (i := 10) (N := some 95) (v := ?_) (a' := ?_) #[true, true, true, true, false, false, false, true, true, true, true, false, false, false, false, false, false, false, false] rfl rfl (any_of HT_.out (by kernel_rfl)) (fun _ _ _ h => h) (Or.inl ⟨by rfl, ?_⟩) ?_ ?_
        rotate_left
        · intro w'
          go_simp
          with_reducible rfl
        rotate_left
        · simp only [Act.put, List.setIfInBounds_toArray, List.set_cons_zero, List.set_cons_succ, i64_w, i32_w]
          rfl
        refine join_ (σ := Nat × Nat) 2 #[true, true, true, true, true, true, true, true, true, true, true, true, true, true, true, true, true, false, false] (fun g => [(89, .slice (some ⟨g.2, 0, none⟩) 1 1), (90, .string XB), (91, .string X3), (96, .string X4), (97, .tuple #[.agg (brw 32 z), .bool (okd c)]), (84, .tuple #[.agg (brw 32 z), .bool (okd c)]), (98, .agg (brw 32 z)), (99, .bool (okd c)), (16, .pointer (some ⟨g.1, 0, none⟩))]) (fun g w' => w.heap.size ≤ g.1 ∧ w'.heap[g.1]? = some (.cells (brw 32 []) 24 (0, 0)) ∧ Below w.heap.size w w') ?_ ?_
        rotate_left
        · intro hCont
          refine two_ (i := 4) (j := 16) (Ni := some 89) (Nj := some 16) #[true, true, true, true, true, false, false, true, true, true, true, false, false, false, false, false, false, false, false] #[true, true, true, true, false, false, false, true, true, true, true, false, false, false, false, false, true, false, false] rfl rfl rfl rfl (two_of HT_.out (by kernel_rfl)) (by decide) (by decide) (fun K hK => ?_) (fun K hK => ?_)
          · skip
            refine value_ (w1 := ?_) (v := ?_) (by rfl) rfl ?_ ?_
            rotate_left 2
            · go_simp
              constructor
              · rfl
              · rfl
            have n_D0 := Aside0.mk (below_alloc D0.out (.cells #[.int .u8 (c.toNat : Int)] 5))
            clear D0
            have D0 := n_D0
            clear n_D0
            have CB := Aside0.mk (blk_new wR (.cells #[.int .u8 (c.toNat : Int)] 5))
            obtain ⟨gb, hgb⟩ : ∃ g, g = wR.heap.size := ⟨_, rfl⟩
            have PB : (Value.slice (some ⟨wR.heap.size, 0, none⟩) 1 1) = .slice (some ⟨gb, 0, none⟩) 1 1 := by rw [hgb]
            rw [PB]
            rw [← hgb] at CB
            clear PB hgb
            generalize wR.alloc (.cells #[.int .u8 (c.toNat : Int)] 5) = wR_4 at D0 CB ⊢
            refine hK.out _ _ trivial (fun hHeld => ?_)
            clear hK K
            refine norm_ (a' := ?_) ?_ ?_
            rotate_left
            · show Act.put _ (some 89) _ = _
              simp only [Act.put, List.setIfInBounds_toArray, List.set_cons_zero, List.set_cons_succ, i64_w, i32_w]
              rfl
            refine two_ (i := 5) (j := 16) (Ni := some 90) (Nj := some 16) #[true, true, true, true, true, true, false, true, true, true, true, false, false, false, false, false, false, false, false] #[true, true, true, true, true, false, false, true, true, true, true, false, false, false, false, false, true, false, false] rfl rfl rfl rfl (two_of HT_.out (by kernel_rfl)) (by decide) (by decide) (fun K hK => ?_) (fun K hK => ?_)
            · skip
              have cv := CV _ gb CB.out
              refine value_ (w1 := ?_) (v := ?_) (by rfl) rfl ?_ ?_
              rotate_left 2
              · go_simp
                constructor
                · rfl
                · rfl
              clear cv
              refine hK.out _ _ trivial (fun hHeld => ?_)
              clear hK K
              refine norm_ (a' := ?_) ?_ ?_
              rotate_left
              · show Act.put _ (some 90) _ = _
                simp only [Act.put, List.setIfInBounds_toArray, List.set_cons_zero, List.set_cons_succ, i64_w, i32_w]
                rfl
              refine pure_ (i := 6) (N := some 91) (v := ?_) (a' := ?_) #[true, true, true, true, true, true, true, true, true, true, true, false, false, false, false, false, false, false, false] rfl rfl (any_of HT_.out (by kernel_rfl)) (fun _ _ _ h => h) (Or.inl ⟨by rfl, ?_⟩) ?_ ?_
              rotate_left
              · intro w'
                go_simp
                with_reducible rfl
              rotate_left
              · simp only [Act.put, List.setIfInBounds_toArray, List.set_cons_zero, List.set_cons_succ, i64_w, i32_w]
                rfl
              refine pure_ (i := 11) (N := some 96) (v := ?_) (a' := ?_) #[true, true, true, true, true, true, true, true, true, true, true, true, false, false, false, false, false, false, false] rfl rfl (any_of HT_.out (by kernel_rfl)) (fun _ _ _ h => h) (Or.inl ⟨by rfl, ?_⟩) ?_ ?_
              rotate_left
              · intro w'
                go_simp
                with_reducible rfl
              rotate_left
              · simp only [Act.put, List.setIfInBounds_toArray, List.set_cons_zero, List.set_cons_succ, i64_w, i32_w]
                rfl
              refine two_ (i := 12) (j := 16) (Ni := some 97) (Nj := some 16) #[true, true, true, true, true, true, true, true, true, true, true, true, true, false, false, false, false, false, false] #[true, true, true, true, true, true, true, true, true, true, true, true, false, false, false, false, true, false, false] rfl rfl rfl rfl (two_of HT_.out (by kernel_rfl)) (by decide) (by decide) (fun K hK => ?_) (fun K hK => ?_)
              · skip
                refine goes_ Try.func16 (by kernel_rfl) rfl #[.string X4] (by rfl) rfl rfl (by (try simp only [List.map_toArray, List.map_cons, List.map_nil]); first | done | rfl) ?_
                with_reducible refine (HP3 _).mono ?_
                rintro e wR_4_12 ⟨rfl, hd⟩
                refine ⟨_, rfl, ?_⟩
                have n_D0 := Aside0.mk (below_then D0.out D0.out.size hd)
                have n_CB := Aside0.mk (blk_below CB.out hd)
                clear D0 CB
                have D0 := n_D0
                have CB := n_CB
                clear n_D0 n_CB
                clear hd
                refine hK.out _ _ trivial (fun hHeld => ?_)
                clear hK K
                refine norm_ (a' := ?_) ?_ ?_
                rotate_left
                · show Act.put _ (some 97) _ = _
                  simp only [Act.put, List.setIfInBounds_toArray, List.set_cons_zero, List.set_cons_succ, i64_w, i32_w]
                  rfl
                refine pure_ (i := 13) (N := some 84) (v := ?_) (a' := ?_) #[true, true, true, true, true, true, true, true, true, true, true, true, true, true, false, false, false, false, false] rfl rfl (any_of HT_.out (by kernel_rfl)) (fun _ _ _ h => h) (Or.inl ⟨by rfl, ?_⟩) ?_ ?_
                rotate_left
                · intro w'
                  go_simp
                  with_reducible rfl
                rotate_left
                · simp only [Act.put, List.setIfInBounds_toArray, List.set_cons_zero, List.set_cons_succ, i64_w, i32_w]
                  rfl
                refine pure_ (i := 14) (N := some 98) (v := ?_) (a' := ?_) #[true, true, true, true, true, true, true, true, true, true, true, true, true, true, true, false, false, false, false] rfl rfl (any_of HT_.out (by kernel_rfl)) (fun _ _ _ h => h) (Or.inl ⟨by rfl, ?_⟩) ?_ ?_
                rotate_left
                · intro w'
                  go_simp
                  with_reducible rfl
                rotate_left
                · simp only [Act.put, List.setIfInBounds_toArray, List.set_cons_zero, List.set_cons_succ, i64_w, i32_w]
                  rfl
                refine pure_ (i := 15) (N := some 99) (v := ?_) (a' := ?_) #[true, true, true, true, true, true, true, true, true, true, true, true, true, true, true, true, false, false, false] rfl rfl (any_of HT_.out (by kernel_rfl)) (fun _ _ _ h => h) (Or.inl ⟨by rfl, ?_⟩) ?_ ?_
                rotate_left
                · intro w'
                  go_simp
                  with_reducible rfl
                rotate_left
                · simp only [Act.put, List.setIfInBounds_toArray, List.set_cons_zero, List.set_cons_succ, i64_w, i32_w]
                  rfl
                refine one_ (i := 16) (N := some 16) #[true, true, true, true, true, true, true, true, true, true, true, true, true, true, true, true, true, false, false] rfl rfl (one_of HT_.out (by kernel_rfl)) (by decide) (fun K hK => ?_)
                refine value_ (w1 := ?_) (v := ?_) (by rfl) rfl ?_ ?_
                rotate_left 2
                · go_simp
                  constructor
                  · rfl
                  · rfl
                have C16 : Aside0 ((wR_4_12.alloc (.cells (brw 32 []) 24)).heap[wR_4_12.heap.size]? = some (.cells (brw 32 []) 24)) := ⟨blk_new _ _⟩
                have G16 : Aside0 (w.heap.size ≤ wR_4_12.heap.size) := ⟨D0.out.size⟩
                have n_D0 := Aside0.mk (below_alloc D0.out (.cells (brw 32 []) 24))
                have n_CB := Aside0.mk (blk_below CB.out (below_alloc (Below.refl _ _) (.cells (brw 32 []) 24)))
                clear D0 CB
                have D0 := n_D0
                have CB := n_CB
                clear n_D0 n_CB
                obtain ⟨g16, hg16⟩ : ∃ g, g = wR_4_12.heap.size := ⟨_, rfl⟩
                have PA : (Value.pointer (some ⟨wR_4_12.heap.size, 0, none⟩)) = .pointer (some ⟨g16, 0, none⟩) := by rw [hg16]
                rw [PA]
                rw [← hg16] at C16 G16
                clear PA hg16
                change K _ (wR_4_12.alloc (.cells (brw 32 []) 24))
                generalize wR_4_12.alloc (.cells (brw 32 []) 24) = wR_4_12_16 at D0 CB C16 ⊢
                refine hK.out _ _ trivial (fun hHeld => ?_)
                clear hK K
                refine norm_ (a' := ?_) ?_ ?_
                rotate_left
                · show Act.put _ (some 16) _ = _
                  simp only [Act.put, List.setIfInBounds_toArray, List.set_cons_zero, List.set_cons_succ, i64_w, i32_w]
                  rfl
                exact norm_ (by first | (simp only [putAll, Act.put, List.setIfInBounds_toArray, List.set_cons_zero, List.set_cons_succ]; done) | (simp only [putAll, Act.put, List.setIfInBounds_toArray, List.set_cons_zero, List.set_cons_succ]; rfl)) (hCont (g16, gb) _ ⟨G16.out, C16.out, D0.out⟩)
              · skip
                refine value_ (w1 := ?_) (v := ?_) (by rfl) rfl ?_ ?_
                rotate_left 2
                · go_simp
                  constructor
                  · rfl
                  · rfl
                have C16 : Aside0 ((wR_4.alloc (.cells (brw 32 []) 24)).heap[wR_4.heap.size]? = some (.cells (brw 32 []) 24)) := ⟨blk_new _ _⟩
                have G16 : Aside0 (w.heap.size ≤ wR_4.heap.size) := ⟨D0.out.size⟩
                have n_D0 := Aside0.mk (below_alloc D0.out (.cells (brw 32 []) 24))
                have n_CB := Aside0.mk (blk_below CB.out (below_alloc (Below.refl _ _) (.cells (brw 32 []) 24)))
                clear D0 CB
                have D0 := n_D0
                have CB := n_CB
                clear n_D0 n_CB
                obtain ⟨g16, hg16⟩ : ∃ g, g = wR_4.heap.size := ⟨_, rfl⟩
                have PA : (Value.pointer (some ⟨wR_4.heap.size, 0, none⟩)) = .pointer (some ⟨g16, 0, none⟩) := by rw [hg16]
                rw [PA]
                rw [← hg16] at C16 G16
                clear PA hg16
                change K _ (wR_4.alloc (.cells (brw 32 []) 24))
                generalize wR_4.alloc (.cells (brw 32 []) 24) = wR_4_16 at D0 CB C16 ⊢
                refine hK.out _ _ trivial (fun hHeld => ?_)
                clear hK K
                refine norm_ (a' := ?_) ?_ ?_
                rotate_left
                · show Act.put _ (some 16) _ = _
                  simp only [Act.put, List.setIfInBounds_toArray, List.set_cons_zero, List.set_cons_succ, i64_w, i32_w]
                  rfl
                refine one_ (i := 12) (N := some 97) #[true, true, true, true, true, true, true, true, true, true, true, true, true, false, false, false, true, false, false] rfl rfl (one_of HT_.out (by kernel_rfl)) (by decide) (fun K hK => ?_)
                refine goes_ Try.func16 (by kernel_rfl) rfl #[.string X4] (by rfl) rfl rfl (by (try simp only [List.map_toArray, List.map_cons, List.map_nil]); first | done | rfl) ?_
                with_reducible refine (HP3 _).mono ?_
                rintro e wR_4_16_12 ⟨rfl, hd⟩
                refine ⟨_, rfl, ?_⟩
                have n_D0 := Aside0.mk (below_then D0.out D0.out.size hd)
                have n_CB := Aside0.mk (blk_below CB.out hd)
                have n_C16 := Aside0.mk (blk_below C16.out hd)
                clear D0 CB C16
                have D0 := n_D0
                have CB := n_CB
                have C16 := n_C16
                clear n_D0 n_CB n_C16
                clear hd
                refine hK.out _ _ trivial (fun hHeld => ?_)
                clear hK K
                refine norm_ (a' := ?_) ?_ ?_
                rotate_left
                · show Act.put _ (some 97) _ = _
                  simp only [Act.put, List.setIfInBounds_toArray, List.set_cons_zero, List.set_cons_succ, i64_w, i32_w]
                  rfl
                refine pure_ (i := 13) (N := some 84) (v := ?_) (a' := ?_) #[true, true, true, true, true, true, true, true, true, true, true, true, true, true, false, false, true, false, false] rfl rfl (any_of HT_.out (by kernel_rfl)) (fun _ _ _ h => h) (Or.inl ⟨by rfl, ?_⟩) ?_ ?_
                rotate_left
                · intro w'
                  go_simp
                  with_reducible rfl
                rotate_left
                · simp only [Act.put, List.setIfInBounds_toArray, List.set_cons_zero, List.set_cons_succ, i64_w, i32_w]
                  rfl
                refine pure_ (i := 14) (N := some 98) (v := ?_) (a' := ?_) #[true, true, true, true, true, true, true, true, true, true, true, true, true, true, true, false, true, false, false] rfl rfl (any_of HT_.out (by kernel_rfl)) (fun _ _ _ h => h) (Or.inl ⟨by rfl, ?_⟩) ?_ ?_
                rotate_left
                · intro w'
                  go_simp
                  with_reducible rfl
                rotate_left
                · simp only [Act.put, List.setIfInBounds_toArray, List.set_cons_zero, List.set_cons_succ, i64_w, i32_w]
                  rfl
                refine pure_ (i := 15) (N := some 99) (v := ?_) (a' := ?_) #[true, true, true, true, true, true, true, true, true, true, true, true, true, true, true, true, true, false, false] rfl rfl (any_of HT_.out (by kernel_rfl)) (fun _ _ _ h => h) (Or.inl ⟨by rfl, ?_⟩) ?_ ?_
                rotate_left
                · intro w'
                  go_simp
                  with_reducible rfl
                rotate_left
                · simp only [Act.put, List.setIfInBounds_toArray, List.set_cons_zero, List.set_cons_succ, i64_w, i32_w]
                  rfl
                exact norm_ (by first | (simp only [putAll, Act.put, List.setIfInBounds_toArray, List.set_cons_zero, List.set_cons_succ]; done) | (simp only [putAll, Act.put, List.setIfInBounds_toArray, List.set_cons_zero, List.set_cons_succ]; rfl)) (hCont (g16, gb) _ ⟨G16.out, C16.out, D0.out⟩)
            · skip
              refine value_ (w1 := ?_) (v := ?_) (by rfl) rfl ?_ ?_
              rotate_left 2
              · go_simp
                constructor
                · rfl
                · rfl
              have C16 : Aside0 ((wR_4.alloc (.cells (brw 32 []) 24)).heap[wR_4.heap.size]? = some (.cells (brw 32 []) 24)) := ⟨blk_new _ _⟩
              have G16 : Aside0 (w.heap.size ≤ wR_4.heap.size) := ⟨D0.out.size⟩
              have n_D0 := Aside0.mk (below_alloc D0.out (.cells (brw 32 []) 24))
              have n_CB := Aside0.mk (blk_below CB.out (below_alloc (Below.refl _ _) (.cells (brw 32 []) 24)))
              clear D0 CB
              have D0 := n_D0
              have CB := n_CB
              clear n_D0 n_CB
              obtain ⟨g16, hg16⟩ : ∃ g, g = wR_4.heap.size := ⟨_, rfl⟩
              have PA : (Value.pointer (some ⟨wR_4.heap.size, 0, none⟩)) = .pointer (some ⟨g16, 0, none⟩) := by rw [hg16]
              rw [PA]
              rw [← hg16] at C16 G16
              clear PA hg16
              change K _ (wR_4.alloc (.cells (brw 32 []) 24))
              generalize wR_4.alloc (.cells (brw 32 []) 24) = wR_4_16 at D0 CB C16 ⊢
              refine hK.out _ _ trivial (fun hHeld => ?_)
              clear hK K
              refine norm_ (a' := ?_) ?_ ?_
              rotate_left
              · show Act.put _ (some 16) _ = _
                simp only [Act.put, List.setIfInBounds_toArray, List.set_cons_zero, List.set_cons_succ, i64_w, i32_w]
                rfl
              refine one_ (i := 5) (N := some 90) #[true, true, true, true, true, true, false, true, true, true, true, false, false, false, false, false, true, false, false] rfl rfl (one_of HT_.out (by kernel_rfl)) (by decide) (fun K hK => ?_)
              have cv := CV _ gb CB.out
              refine value_ (w1 := ?_) (v := ?_) (by rfl) rfl ?_ ?_
              rotate_left 2
              · go_simp
                constructor
                · rfl
                · rfl
              clear cv
              refine hK.out _ _ trivial (fun hHeld => ?_)
              clear hK K
              refine norm_ (a' := ?_) ?_ ?_
              rotate_left
              · show Act.put _ (some 90) _ = _
                simp only [Act.put, List.setIfInBounds_toArray, List.set_cons_zero, List.set_cons_succ, i64_w, i32_w]
                rfl
              refine pure_ (i := 6) (N := some 91) (v := ?_) (a' := ?_) #[true, true, true, true, true, true, true, true, true, true, true, false, false, false, false, false, true, false, false] rfl rfl (any_of HT_.out (by kernel_rfl)) (fun _ _ _ h => h) (Or.inl ⟨by rfl, ?_⟩) ?_ ?_
              rotate_left
              · intro w'
                go_simp
                with_reducible rfl
              rotate_left
              · simp only [Act.put, List.setIfInBounds_toArray, List.set_cons_zero, List.set_cons_succ, i64_w, i32_w]
                rfl
              refine pure_ (i := 11) (N := some 96) (v := ?_) (a' := ?_) #[true, true, true, true, true, true, true, true, true, true, true, true, false, false, false, false, true, false, false] rfl rfl (any_of HT_.out (by kernel_rfl)) (fun _ _ _ h => h) (Or.inl ⟨by rfl, ?_⟩) ?_ ?_
              rotate_left
              · intro w'
                go_simp
                with_reducible rfl
              rotate_left
              · simp only [Act.put, List.setIfInBounds_toArray, List.set_cons_zero, List.set_cons_succ, i64_w, i32_w]
                rfl
              refine one_ (i := 12) (N := some 97) #[true, true, true, true, true, true, true, true, true, true, true, true, true, false, false, false, true, false, false] rfl rfl (one_of HT_.out (by kernel_rfl)) (by decide) (fun K hK => ?_)
              refine goes_ Try.func16 (by kernel_rfl) rfl #[.string X4] (by rfl) rfl rfl (by (try simp only [List.map_toArray, List.map_cons, List.map_nil]); first | done | rfl) ?_
              with_reducible refine (HP3 _).mono ?_
              rintro e wR_4_16_12 ⟨rfl, hd⟩
              refine ⟨_, rfl, ?_⟩
              have n_D0 := Aside0.mk (below_then D0.out D0.out.size hd)
              have n_CB := Aside0.mk (blk_below CB.out hd)
              have n_C16 := Aside0.mk (blk_below C16.out hd)
              clear D0 CB C16
              have D0 := n_D0
              have CB := n_CB
              have C16 := n_C16
              clear n_D0 n_CB n_C16
              clear hd
              refine hK.out _ _ trivial (fun hHeld => ?_)
              clear hK K
              refine norm_ (a' := ?_) ?_ ?_
              rotate_left
              · show Act.put _ (some 97) _ = _
                simp only [Act.put, List.setIfInBounds_toArray, List.set_cons_zero, List.set_cons_succ, i64_w, i32_w]
                rfl
              refine pure_ (i := 13) (N := some 84) (v := ?_) (a' := ?_) #[true, true, true, true, true, true, true, true, true, true, true, true, true, true, false, false, true, false, false] rfl rfl (any_of HT_.out (by kernel_rfl)) (fun _ _ _ h => h) (Or.inl ⟨by rfl, ?_⟩) ?_ ?_
              rotate_left
              · intro w'
                go_simp
                with_reducible rfl
              rotate_left
              · simp only [Act.put, List.setIfInBounds_toArray, List.set_cons_zero, List.set_cons_succ, i64_w, i32_w]
                rfl
              refine pure_ (i := 14) (N := some 98) (v := ?_) (a' := ?_) #[true, true, true, true, true, true, true, true, true, true, true, true, true, true, true, false, true, false, false] rfl rfl (any_of HT_.out (by kernel_rfl)) (fun _ _ _ h => h) (Or.inl ⟨by rfl, ?_⟩) ?_ ?_
              rotate_left
              · intro w'
                go_simp
                with_reducible rfl
              rotate_left
              · simp only [Act.put, List.setIfInBounds_toArray, List.set_cons_zero, List.set_cons_succ, i64_w, i32_w]
                rfl
              refine pure_ (i := 15) (N := some 99) (v := ?_) (a' := ?_) #[true, true, true, true, true, true, true, true, true, true, true, true, true, true, true, true, true, false, false] rfl rfl (any_of HT_.out (by kernel_rfl)) (fun _ _ _ h => h) (Or.inl ⟨by rfl, ?_⟩) ?_ ?_
              rotate_left
              · intro w'
                go_simp
                with_reducible rfl
              rotate_left
              · simp only [Act.put, List.setIfInBounds_toArray, List.set_cons_zero, List.set_cons_succ, i64_w, i32_w]
                rfl
              exact norm_ (by first | (simp only [putAll, Act.put, List.setIfInBounds_toArray, List.set_cons_zero, List.set_cons_succ]; done) | (simp only [putAll, Act.put, List.setIfInBounds_toArray, List.set_cons_zero, List.set_cons_succ]; rfl)) (hCont (g16, gb) _ ⟨G16.out, C16.out, D0.out⟩)
          · skip
            refine value_ (w1 := ?_) (v := ?_) (by rfl) rfl ?_ ?_
            rotate_left 2
            · go_simp
              constructor
              · rfl
              · rfl
            have C16 : Aside0 ((wR.alloc (.cells (brw 32 []) 24)).heap[wR.heap.size]? = some (.cells (brw 32 []) 24)) := ⟨blk_new _ _⟩
            have G16 : Aside0 (w.heap.size ≤ wR.heap.size) := ⟨D0.out.size⟩
            have n_D0 := Aside0.mk (below_alloc D0.out (.cells (brw 32 []) 24))
            clear D0
            have D0 := n_D0
            clear n_D0
            obtain ⟨g16, hg16⟩ : ∃ g, g = wR.heap.size := ⟨_, rfl⟩
            have PA : (Value.pointer (some ⟨wR.heap.size, 0, none⟩)) = .pointer (some ⟨g16, 0, none⟩) := by rw [hg16]
            rw [PA]
            rw [← hg16] at C16 G16
            clear PA hg16
            change K _ (wR.alloc (.cells (brw 32 []) 24))
            generalize wR.alloc (.cells (brw 32 []) 24) = wR_16 at D0 C16 ⊢
            refine hK.out _ _ trivial (fun hHeld => ?_)
            clear hK K
            refine norm_ (a' := ?_) ?_ ?_
            rotate_left
            · show Act.put _ (some 16) _ = _
              simp only [Act.put, List.setIfInBounds_toArray, List.set_cons_zero, List.set_cons_succ, i64_w, i32_w]
              rfl
            refine one_ (i := 4) (N := some 89) #[true, true, true, true, true, false, false, true, true, true, true, false, false, false, false, false, true, false, false] rfl rfl (one_of HT_.out (by kernel_rfl)) (by decide) (fun K hK => ?_)
            refine value_ (w1 := ?_) (v := ?_) (by rfl) rfl ?_ ?_
            rotate_left 2
            · go_simp
              constructor
              · rfl
              · rfl
            have n_D0 := Aside0.mk (below_alloc D0.out (.cells #[.int .u8 (c.toNat : Int)] 5))
            have n_C16 := Aside0.mk (blk_below C16.out (below_alloc (Below.refl _ _) (.cells #[.int .u8 (c.toNat : Int)] 5)))
            clear D0 C16
            have D0 := n_D0
            have C16 := n_C16
            clear n_D0 n_C16
            have CB := Aside0.mk (blk_new wR_16 (.cells #[.int .u8 (c.toNat : Int)] 5))
            obtain ⟨gb, hgb⟩ : ∃ g, g = wR_16.heap.size := ⟨_, rfl⟩
            have PB : (Value.slice (some ⟨wR_16.heap.size, 0, none⟩) 1 1) = .slice (some ⟨gb, 0, none⟩) 1 1 := by rw [hgb]
            rw [PB]
            rw [← hgb] at CB
            clear PB hgb
            generalize wR_16.alloc (.cells #[.int .u8 (c.toNat : Int)] 5) = wR_16_4 at D0 CB C16 ⊢
            refine hK.out _ _ trivial (fun hHeld => ?_)
            clear hK K
            refine norm_ (a' := ?_) ?_ ?_
            rotate_left
            · show Act.put _ (some 89) _ = _
              simp only [Act.put, List.setIfInBounds_toArray, List.set_cons_zero, List.set_cons_succ, i64_w, i32_w]
              rfl
            refine one_ (i := 5) (N := some 90) #[true, true, true, true, true, true, false, true, true, true, true, false, false, false, false, false, true, false, false] rfl rfl (one_of HT_.out (by kernel_rfl)) (by decide) (fun K hK => ?_)
            have cv := CV _ gb CB.out
            refine value_ (w1 := ?_) (v := ?_) (by rfl) rfl ?_ ?_
            rotate_left 2
            · go_simp
              constructor
              · rfl
              · rfl
            clear cv
            refine hK.out _ _ trivial (fun hHeld => ?_)
            clear hK K
            refine norm_ (a' := ?_) ?_ ?_
            rotate_left
            · show Act.put _ (some 90) _ = _
              simp only [Act.put, List.setIfInBounds_toArray, List.set_cons_zero, List.set_cons_succ, i64_w, i32_w]
              rfl
            refine pure_ (i := 6) (N := some 91) (v := ?_) (a' := ?_) #[true, true, true, true, true, true, true, true, true, true, true, false, false, false, false, false, true, false, false] rfl rfl (any_of HT_.out (by kernel_rfl)) (fun _ _ _ h => h) (Or.inl ⟨by rfl, ?_⟩) ?_ ?_
            rotate_left
            · intro w'
              go_simp
              with_reducible rfl
            rotate_left
            · simp only [Act.put, List.setIfInBounds_toArray, List.set_cons_zero, List.set_cons_succ, i64_w, i32_w]
              rfl
            refine pure_ (i := 11) (N := some 96) (v := ?_) (a' := ?_) #[true, true, true, true, true, true, true, true, true, true, true, true, false, false, false, false, true, false, false] rfl rfl (any_of HT_.out (by kernel_rfl)) (fun _ _ _ h => h) (Or.inl ⟨by rfl, ?_⟩) ?_ ?_
            rotate_left
            · intro w'
              go_simp
              with_reducible rfl
            rotate_left
            · simp only [Act.put, List.setIfInBounds_toArray, List.set_cons_zero, List.set_cons_succ, i64_w, i32_w]
              rfl
            refine one_ (i := 12) (N := some 97) #[true, true, true, true, true, true, true, true, true, true, true, true, true, false, false, false, true, false, false] rfl rfl (one_of HT_.out (by kernel_rfl)) (by decide) (fun K hK => ?_)
            refine goes_ Try.func16 (by kernel_rfl) rfl #[.string X4] (by rfl) rfl rfl (by (try simp only [List.map_toArray, List.map_cons, List.map_nil]); first | done | rfl) ?_
            with_reducible refine (HP3 _).mono ?_
            rintro e wR_16_4_12 ⟨rfl, hd⟩
            refine ⟨_, rfl, ?_⟩
            have n_D0 := Aside0.mk (below_then D0.out D0.out.size hd)
            have n_CB := Aside0.mk (blk_below CB.out hd)
            have n_C16 := Aside0.mk (blk_below C16.out hd)
            clear D0 CB C16
            have D0 := n_D0
            have CB := n_CB
            have C16 := n_C16
            clear n_D0 n_CB n_C16
            clear hd
            refine hK.out _ _ trivial (fun hHeld => ?_)
            clear hK K
            refine norm_ (a' := ?_) ?_ ?_
            rotate_left
            · show Act.put _ (some 97) _ = _
              simp only [Act.put, List.setIfInBounds_toArray, List.set_cons_zero, List.set_cons_succ, i64_w, i32_w]
              rfl
            refine pure_ (i := 13) (N := some 84) (v := ?_) (a' := ?_) #[true, true, true, true, true, true, true, true, true, true, true, true, true, true, false, false, true, false, false] rfl rfl (any_of HT_.out (by kernel_rfl)) (fun _ _ _ h => h) (Or.inl ⟨by rfl, ?_⟩) ?_ ?_
            rotate_left
            · intro w'
              go_simp
              with_reducible rfl
            rotate_left
            · simp only [Act.put, List.setIfInBounds_toArray, List.set_cons_zero, List.set_cons_succ, i64_w, i32_w]
              rfl
            refine pure_ (i := 14) (N := some 98) (v := ?_) (a' := ?_) #[true, true, true, true, true, true, true, true, true, true, true, true, true, true, true, false, true, false, false] rfl rfl (any_of HT_.out (by kernel_rfl)) (fun _ _ _ h => h) (Or.inl ⟨by rfl, ?_⟩) ?_ ?_
            rotate_left
            · intro w'
              go_simp
              with_reducible rfl
            rotate_left
            · simp only [Act.put, List.setIfInBounds_toArray, List.set_cons_zero, List.set_cons_succ, i64_w, i32_w]
              rfl
            refine pure_ (i := 15) (N := some 99) (v := ?_) (a' := ?_) #[true, true, true, true, true, true, true, true, true, true, true, true, true, true, true, true, true, false, false] rfl rfl (any_of HT_.out (by kernel_rfl)) (fun _ _ _ h => h) (Or.inl ⟨by rfl, ?_⟩) ?_ ?_
            rotate_left
            · intro w'
              go_simp
              with_reducible rfl
            rotate_left
            · simp only [Act.put, List.setIfInBounds_toArray, List.set_cons_zero, List.set_cons_succ, i64_w, i32_w]
              rfl
            exact norm_ (by first | (simp only [putAll, Act.put, List.setIfInBounds_toArray, List.set_cons_zero, List.set_cons_succ]; done) | (simp only [putAll, Act.put, List.setIfInBounds_toArray, List.set_cons_zero, List.set_cons_succ]; rfl)) (hCont (g16, gb) _ ⟨G16.out, C16.out, D0.out⟩)
        clear D0 hHeld
        rintro ⟨g16, gb⟩ wS ⟨hg16, h16, hd16⟩
        dsimp only at hg16 h16
        have C16 := Aside0.mk h16
        have D0 := Aside0.mk hd16
        have G16 := Aside0.mk hg16
        clear h16 hd16 hg16
        refine norm_ (a' := ?_) ?_ ?_
        rotate_left
        · simp only [putAll, Act.put, List.setIfInBounds_toArray, List.set_cons_zero, List.set_cons_succ]
          rfl
        refine last_ (i := 17) (N := none) #[true, true, true, true, true, true, true, true, true, true, true, true, true, true, true, true, true, true, false] rfl rfl (one_of HT_.out (by kernel_rfl)) (by decide) (fun K hK => ?_)
        rw [if_pos (by rfl)]
        refine wp_store_row 24 (.tmp 16) (.tmp 98) rfl g16 (brw 32 z) rfl rfl 24 _ C16.out (by rw [hzz32]; exact i24) (by rw [hzz32, hz0]) (brw_one _ _) ?_
        refine hK.out _ _ ?_
        clear hK K
        refine norm_ (a' := ?_) ?_ ?_
        rotate_left
        · show Act.put _ (none) _ = _
          simp only [Act.put]
          rfl
        have n_C16 := Aside0.mk (setRow_heap _ g16 _ (brw 32 z) _ _ C16.out)
        have n_D0 := Aside0.mk (below_setRow D0.out G16.out (brw 32 z))
        clear C16 D0
        have C16 := n_C16
        have D0 := n_D0
        clear n_C16 n_D0
        generalize wS.setRow g16 (brw 32 z) = wT at C16 D0 ⊢
        refine pure_ (i := 18) (N := some 17) (v := ?_) (a' := ?_) #[true, true, true, true, true, true, true, true, true, true, true, true, true, true, true, true, true, true, true] rfl rfl (any_of HT_.out (by kernel_rfl)) (fun _ _ _ h => h) (Or.inl ⟨by rfl, ?_⟩) ?_ ?_
        rotate_left
        · intro w'
          go_simp
          with_reducible rfl
        rotate_left
        · simp only [Act.put, List.setIfInBounds_toArray, List.set_cons_zero, List.set_cons_succ, i64_w, i32_w]
          rfl
        refine done_ (done_of HT_.out (by kernel_rfl)) ?_
        obtain ⟨dg, hdg⟩ : ∃ b, b = okd c := ⟨_, rfl⟩
        rw [← hdg]
        clear HP3
        cases dg
        · have hdz : decide (z = Z) = true := decide_eq_true (hzz hdg.symm)
          clear hdg hzz
          go_wp2_with (first
            | (go_at_call 16; (with_reducible refine (HP4 _).mono ?_); rintro e w20 ⟨rfl, hb⟩; have n_C16 := Aside0.mk (blk_below C16.out hb); have n_D0 := Aside0.mk (below_then D0.out D0.out.size hb); clear C16 D0 hb; have C16 := n_C16; have D0 := n_D0; clear n_C16 n_D0)
            | ((with_reducible refine gate_store rfl ?_); refine wpList_store_row rfl 24 (.tmp 18) (.tmp 105) rfl w20.heap.size (brw 32 Z) rfl rfl 24 (brw 32 []) (blk_new _ _) (by rw [hzZ]; exact i24) (by rw [hzZ, hz0]) (brw_one _ _) ?_)
            | (go_at_call 16; change Calls Try.prog 16 _ ((w20.alloc (.cells (brw 32 []) 24)).setRow w20.heap.size (brw 32 Z)) _; (with_reducible refine (HP5 _).mono ?_); rintro e w21 ⟨rfl, hb⟩; have hq := below_setRow (below_alloc (Below.refl w20.heap.size w20) (.cells (brw 32 []) 24)) (Nat.le_refl _) (brw 32 Z); have n_C16 := Aside0.mk (blk_below (blk_below C16.out hq) hb); have n_D0 := Aside0.mk (below_then (below_setRow (below_alloc D0.out (.cells (brw 32 []) 24)) D0.out.size (brw 32 Z)) (below_setRow (below_alloc D0.out (.cells (brw 32 []) 24)) D0.out.size (brw 32 Z)).size hb); clear C16 D0 hb hq; have C16 := n_C16; have D0 := n_D0; clear n_C16 n_D0)
            | ((with_reducible refine gate_store rfl ?_); refine wpList_store_row rfl 24 (.tmp 20) (.tmp 115) rfl w21.heap.size (brw 32 Z) rfl rfl 24 (brw 32 []) (blk_new _ _) (by rw [hzZ]; exact i24) (by rw [hzZ, hz0]) (brw_one _ _) ?_)
            | ((with_reducible refine gate_dst (N := 131) rfl ?_); refine gate_guard (by rfl) ?_; refine wpList_load_row rfl 24 (.tmp 16) rfl g16 rfl 24 (brw 32 z) (0, 0) _ (blk_below C16.out (below_setRow (below_alloc (Below.refl w21.heap.size w21) (.cells (brw 32 []) 24)) (Nat.le_refl _) (brw 32 Z))) Try.underlying24 rfl (by rw [hzz32]; exact i24) ?_))
          go_ret
          exact ⟨rfl, below_setRow (below_alloc D0.out (.cells (brw 32 []) 24)) D0.out.size (brw 32 Z)⟩
        · clear hdg hzz
          go_wp2_with (first
            | (go_at_call 16; (with_reducible refine (HP4 _).mono ?_); rintro e w20 ⟨rfl, hb⟩; have n_C16 := Aside0.mk (blk_below C16.out hb); have n_D0 := Aside0.mk (below_then D0.out D0.out.size hb); clear C16 D0 hb; have C16 := n_C16; have D0 := n_D0; clear n_C16 n_D0)
            | ((with_reducible refine gate_store rfl ?_); refine wpList_store_row rfl 24 (.tmp 18) (.tmp 105) rfl w20.heap.size (brw 32 Z) rfl rfl 24 (brw 32 []) (blk_new _ _) (by rw [hzZ]; exact i24) (by rw [hzZ, hz0]) (brw_one _ _) ?_)
            | (go_at_call 16; change Calls Try.prog 16 _ ((w20.alloc (.cells (brw 32 []) 24)).setRow w20.heap.size (brw 32 Z)) _; (with_reducible refine (HP5 _).mono ?_); rintro e w21 ⟨rfl, hb⟩; have hq := below_setRow (below_alloc (Below.refl w20.heap.size w20) (.cells (brw 32 []) 24)) (Nat.le_refl _) (brw 32 Z); have n_C16 := Aside0.mk (blk_below (blk_below C16.out hq) hb); have n_D0 := Aside0.mk (below_then (below_setRow (below_alloc D0.out (.cells (brw 32 []) 24)) D0.out.size (brw 32 Z)) (below_setRow (below_alloc D0.out (.cells (brw 32 []) 24)) D0.out.size (brw 32 Z)).size hb); clear C16 D0 hb hq; have C16 := n_C16; have D0 := n_D0; clear n_C16 n_D0)
            | ((with_reducible refine gate_store rfl ?_); refine wpList_store_row rfl 24 (.tmp 20) (.tmp 115) rfl w21.heap.size (brw 32 Z) rfl rfl 24 (brw 32 []) (blk_new _ _) (by rw [hzZ]; exact i24) (by rw [hzZ, hz0]) (brw_one _ _) ?_)
            | ((with_reducible refine gate_dst (N := 131) rfl ?_); refine gate_guard (by rfl) ?_; refine wpList_load_row rfl 24 (.tmp 16) rfl g16 rfl 24 (brw 32 z) (0, 0) _ (blk_below C16.out (below_setRow (below_alloc (Below.refl w21.heap.size w21) (.cells (brw 32 []) 24)) (Nat.le_refl _) (brw 32 Z))) Try.underlying24 rfl (by rw [hzz32]; exact i24) ?_))
          go_ret
          exact ⟨rfl, below_setRow (below_alloc D0.out (.cells (brw 32 []) 24)) D0.out.size (brw 32 Z)⟩
      clear aK13
      rcases digit_cases c with ⟨p1, p2, p3, p4, ho⟩ | ⟨p1, p2, p3, p4, ho⟩ | ⟨p1, p2, p3, p4, ho⟩ | ⟨p1, p2, p3, p4, ho⟩ | ⟨p1, p2, p3, p4, ho⟩ <;> (
        rw [ho] at TAIL
        clear ho
        go_wp2
        try rw [q3]
        exact D0.out))
  · have HX3 := HX2 rfl
    clear HX2 hno
    go_upto_region 10 with (first
      | ((with_reducible refine gate_dst (N := 50) rfl ?_); refine gate_guard (by rfl) ?_; refine wpList_load_row rfl 24 (.tmp 12) rfl g12 rfl 24 (brw 32 y) (0, 0) _ C12.out Try.underlying24 rfl (by rw [hzy]; exact i24) ?_)
      | (go_at_call 18; (with_reducible refine (HX3 _).mono ?_); rintro e w8 ⟨rfl, hb⟩; have n_D0 := Aside0.mk (below_then D0.out D0.out.size hb); clear C4 C12 D0 hb; have D0 := n_D0; clear n_D0))
    rcases hsign with ⟨x, q1, q2, q3⟩ | ⟨x, q1, q2, q3⟩ <;> (
      go_upto_region 13 with (fail)
      rename_i K13 aK13
      have TAIL : ∀ (uu0 uu1 uu2 uu4 uu5 uu6 uu7 uu8 uu10 uu11 uu12 uu13 uu16 uu17 uu18 uu19 uu20 uu21 uu22 uu23 uu24 uu25 uu26 uu27 uu28 uu29 uu30 uu31 uu32 uu33 uu34 uu35 uu36 uu37 uu38 uu39 uu40 uu41 uu42 uu43 uu44 uu45 uu46 uu47 uu48 uu49 uu50 uu51 uu52 uu53 uu54 uu55 uu56 uu57 uu58 uu59 uu60 uu61 uu62 uu63 uu64 uu65 uu66 uu67 uu68 uu69 uu70 uu71 uu72 uu73 uu74 uu75 uu76 uu77 uu78 uu79 uu80 uu81 uu82 uu83 uu84 uu85 uu86 uu87 uu88 uu89 uu90 uu91 uu92 uu93 uu94 uu95 uu96 uu97 uu98 uu99 uu100 uu101 uu102 uu103 uu104 uu105 uu106 uu107 uu108 uu109 uu110 uu111 uu112 uu113 uu114 uu115 uu116 uu117 uu118 uu119 uu120 uu121 uu122 uu123 uu124 uu125 uu126 uu127 uu128 uu129 uu130 uu131 uu132 uu133 uu134 uu135 : Value) (W13 : World), Below w.heap.size w W13 → K13 { tmps := #[uu0, uu1, uu2, .int .u8 (c.toNat : Int), uu4, uu5, uu6, uu7, uu8, .string TD, uu10, uu11, uu12, uu13, .int .i64 (k : Int), .bool (okd c), uu16, uu17, uu18, uu19, uu20, uu21, uu22, uu23, uu24, uu25, uu26, uu27, uu28, uu29, uu30, uu31, uu32, uu33, uu34, uu35, uu36, uu37, uu38, uu39, uu40, uu41, uu42, uu43, uu44, uu45, uu46, uu47, uu48, uu49, uu50, uu51, uu52, uu53, uu54, uu55, uu56, uu57, uu58, uu59, uu60, uu61, uu62, uu63, uu64, uu65, uu66, uu67, uu68, uu69, uu70, uu71, uu72, uu73, uu74, uu75, uu76, uu77, uu78, uu79, uu80, uu81, uu82, uu83, uu84, uu85, uu86, uu87, uu88, uu89, uu90, uu91, uu92, uu93, uu94, uu95, uu96, uu97, uu98, uu99, uu100, uu101, uu102, uu103, uu104, uu105, uu106, uu107, uu108, uu109, uu110, uu111, uu112, uu113, uu114, uu115, uu116, uu117, uu118, uu119, uu120, uu121, uu122, uu123, uu124, uu125, uu126, uu127, uu128, uu129, uu130, uu131, uu132, uu133, uu134, uu135], defers := [] } W13 := by
        intro uu0 uu1 uu2 uu4 uu5 uu6 uu7 uu8 uu10 uu11 uu12 uu13 uu16 uu17 uu18 uu19 uu20 uu21 uu22 uu23 uu24 uu25 uu26 uu27 uu28 uu29 uu30 uu31 uu32 uu33 uu34 uu35 uu36 uu37 uu38 uu39 uu40 uu41 uu42 uu43 uu44 uu45 uu46 uu47 uu48 uu49 uu50 uu51 uu52 uu53 uu54 uu55 uu56 uu57 uu58 uu59 uu60 uu61 uu62 uu63 uu64 uu65 uu66 uu67 uu68 uu69 uu70 uu71 uu72 uu73 uu74 uu75 uu76 uu77 uu78 uu79 uu80 uu81 uu82 uu83 uu84 uu85 uu86 uu87 uu88 uu89 uu90 uu91 uu92 uu93 uu94 uu95 uu96 uu97 uu98 uu99 uu100 uu101 uu102 uu103 uu104 uu105 uu106 uu107 uu108 uu109 uu110 uu111 uu112 uu113 uu114 uu115 uu116 uu117 uu118 uu119 uu120 uu121 uu122 uu123 uu124 uu125 uu126 uu127 uu128 uu129 uu130 uu131 uu132 uu133 uu134 uu135 W13 hW13
        have D0 := Aside0.mk hW13
        clear hW13
        refine aK13 _ _ ?_
        clear aK13
        go_upto_region 14 with (fail)
        refine start_ (n := 19) (S := fun _ => True) (ds := [17]) #[false, false, false, false, false, false, false, false, false, false, false, false, false, false, false, false, false, false, false] (by kernel_rfl) rfl rfl trivial (fun hHeld => ?_); refine with_tabW bk14.tab14 bk14.bits14 (fun HT_ HW_ => ?_)
        have n_D0 := Aside0.mk (below_drew1 D0.out)
        clear D0
        have D0 := n_D0
        clear n_D0
        generalize World.drew _ = wR at D0 hHeld ⊢
        refine pure_ (i := 0) (N := some 85) (v := ?_) (a' := ?_) #[true, false, false, false, false, false, false, false, false, false, false, false, false, false, false, false, false, false, false] rfl rfl (any_of HT_.out (by kernel_rfl)) (fun _ _ _ h => h) (Or.inl ⟨by rfl, ?_⟩) ?_ ?_
        rotate_left
        · intro w'
          go_simp
          with_reducible rfl
        rotate_left
        · simp only [Act.put, List.setIfInBounds_toArray, List.set_cons_zero, List.set_cons_succ, i64_w, i32_w]
          rfl
        refine pure_ (i := 1) (N := some 86) (v := ?_) (a' := ?_) #[true, true, false, false, false, false, false, false, false, false, false, false, false, false, false, false, false, false, false] rfl rfl (any_of HT_.out (by kernel_rfl)) (fun _ _ _ h => h) (Or.inl ⟨by rfl, ?_⟩) ?_ ?_
        rotate_left
        · intro w'
          go_simp
          with_reducible rfl
        rotate_left
        · simp only [Act.put, List.setIfInBounds_toArray, List.set_cons_zero, List.set_cons_succ, i64_w, i32_w]
          rfl
        refine pure_ (i := 2) (N := some 87) (v := ?_) (a' := ?_) #[true, true, true, false, false, false, false, false, false, false, false, false, false, false, false, false, false, false, false] rfl rfl (any_of HT_.out (by kernel_rfl)) (fun _ _ _ h => h) (Or.inl ⟨by rfl, ?_⟩) ?_ ?_
        rotate_left
        · intro w'
          go_simp
          with_reducible rfl
        rotate_left
        · simp only [Act.put, List.setIfInBounds_toArray, List.set_cons_zero, List.set_cons_succ, i64_w, i32_w]
          rfl
        refine pure_ (i := 3) (N := some 88) (v := ?_) (a' := ?_) #[true, true, true, true, false, false, false, false, false, false, false, false, false, false, false, false, false, false, false] rfl rfl (any_of HT_.out (by kernel_rfl)) (fun _ _ _ h => h) (Or.inl ⟨by rfl, ?_⟩) ?_ ?_
        rotate_left
        · intro w'
          go_simp
          with_reducible rfl
        rotate_left
        · simp only [Act.put, List.setIfInBounds_toArray, List.set_cons_zero, List.set_cons_succ, i64_w, i32_w]
          rfl
        refine pure_ (i := 7) (N := some 92) (v := ?_) (a' := ?_) #[true, true, true, true, false, false, false, true, false, false, false, false, false, false, false, false, false, false, false] rfl rfl (any_of HT_.out (by kernel_rfl)) (fun _ _ _ h => h) (Or.inl ⟨by rfl, ?_⟩) ?_ ?_
        rotate_left
        · intro w'
          go_simp
          with_reducible rfl
        rotate_left
        · simp only [Act.put, List.setIfInBounds_toArray, List.set_cons_zero, List.set_cons_succ, i64_w, i32_w]
          rfl
        refine pure_ (i := 8) (N := some 93) (v := ?_) (a' := ?_) #[true, true, true, true, false, false, false, true, true, false, false, false, false, false, false, false, false, false, false] rfl rfl (any_of HT_.out (by kernel_rfl)) (fun _ _ _ h => h) (Or.inl ⟨by rfl, ?_⟩) ?_ ?_
        rotate_left
        · intro w'
          go_simp
          with_reducible rfl
        rotate_left
        · simp only [Act.put, List.setIfInBounds_toArray, List.set_cons_zero, List.set_cons_succ, i64_w, i32_w]
          rfl
        refine pure_ (i := 9) (N := some 94) (v := ?_) (a' := ?_) #[true, true, true, true, false, false, false, true, true, true, false, false, false, false, false, false, false, false, false] rfl rfl (any_of HT_.out (by kernel_rfl)) (fun _ _ _ h => h) (Or.inl ⟨by rfl, ?_⟩) ?_ ?_
        rotate_left
        · intro w'
          go_simp
          with_reducible rfl
        rotate_left
        · simp only [Act.put, List.setIfInBounds_toArray, List.set_cons_zero, List.set_cons_succ, i64_w, i32_w]
          rfl
        refine pure_ (i := 10) (N := some 95) (v := ?_) (a' := ?_) #[true, true, true, true, false, false, false, true, true, true, true, false, false, false, false, false, false, false, false] rfl rfl (any_of HT_.out (by kernel_rfl)) (fun _ _ _ h => h) (Or.inl ⟨by rfl, ?_⟩) ?_ ?_
        rotate_left
        · intro w'
          go_simp
          with_reducible rfl
        rotate_left
        · simp only [Act.put, List.setIfInBounds_toArray, List.set_cons_zero, List.set_cons_succ, i64_w, i32_w]
          rfl
        refine join_ (σ := Nat × Nat) 2 #[true, true, true, true, true, true, true, true, true, true, true, true, true, true, true, true, true, false, false] (fun g => [(89, .slice (some ⟨g.2, 0, none⟩) 1 1), (90, .string XB), (91, .string X3), (96, .string X4), (97, .tuple #[.agg (brw 32 z), .bool (okd c)]), (84, .tuple #[.agg (brw 32 z), .bool (okd c)]), (98, .agg (brw 32 z)), (99, .bool (okd c)), (16, .pointer (some ⟨g.1, 0, none⟩))]) (fun g w' => w.heap.size ≤ g.1 ∧ w'.heap[g.1]? = some (.cells (brw 32 []) 24 (0, 0)) ∧ Below w.heap.size w w') ?_ ?_
        rotate_left
        · intro hCont
          refine two_ (i := 4) (j := 16) (Ni := some 89) (Nj := some 16) #[true, true, true, true, true, false, false, true, true, true, true, false, false, false, false, false, false, false, false] #[true, true, true, true, false, false, false, true, true, true, true, false, false, false, false, false, true, false, false] rfl rfl rfl rfl (two_of HT_.out (by kernel_rfl)) (by decide) (by decide) (fun K hK => ?_) (fun K hK => ?_)
          · skip
            refine value_ (w1 := ?_) (v := ?_) (by rfl) rfl ?_ ?_
            rotate_left 2
            · go_simp
              constructor
              · rfl
              · rfl
            have n_D0 := Aside0.mk (below_alloc D0.out (.cells #[.int .u8 (c.toNat : Int)] 5))
            clear D0
            have D0 := n_D0
            clear n_D0
            have CB := Aside0.mk (blk_new wR (.cells #[.int .u8 (c.toNat : Int)] 5))
            obtain ⟨gb, hgb⟩ : ∃ g, g = wR.heap.size := ⟨_, rfl⟩
            have PB : (Value.slice (some ⟨wR.heap.size, 0, none⟩) 1 1) = .slice (some ⟨gb, 0, none⟩) 1 1 := by rw [hgb]
            rw [PB]
            rw [← hgb] at CB
            clear PB hgb
            generalize wR.alloc (.cells #[.int .u8 (c.toNat : Int)] 5) = wR_4 at D0 CB ⊢
            refine hK.out _ _ trivial (fun hHeld => ?_)
            clear hK K
            refine norm_ (a' := ?_) ?_ ?_
            rotate_left
            · show Act.put _ (some 89) _ = _
              simp only [Act.put, List.setIfInBounds_toArray, List.set_cons_zero, List.set_cons_succ, i64_w, i32_w]
              rfl
            refine two_ (i := 5) (j := 16) (Ni := some 90) (Nj := some 16) #[true, true, true, true, true, true, false, true, true, true, true, false, false, false, false, false, false, false, false] #[true, true, true, true, true, false, false, true, true, true, true, false, false, false, false, false, true, false, false] rfl rfl rfl rfl (two_of HT_.out (by kernel_rfl)) (by decide) (by decide) (fun K hK => ?_) (fun K hK => ?_)
            · skip
              have cv := CV _ gb CB.out
              refine value_ (w1 := ?_) (v := ?_) (by rfl) rfl ?_ ?_
              rotate_left 2
              · go_simp
                constructor
                · rfl
                · rfl
              clear cv
              refine hK.out _ _ trivial (fun hHeld => ?_)
              clear hK K
              refine norm_ (a' := ?_) ?_ ?_
              rotate_left
              · show Act.put _ (some 90) _ = _
                simp only [Act.put, List.setIfInBounds_toArray, List.set_cons_zero, List.set_cons_succ, i64_w, i32_w]
                rfl
              refine pure_ (i := 6) (N := some 91) (v := ?_) (a' := ?_) #[true, true, true, true, true, true, true, true, true, true, true, false, false, false, false, false, false, false, false] rfl rfl (any_of HT_.out (by kernel_rfl)) (fun _ _ _ h => h) (Or.inl ⟨by rfl, ?_⟩) ?_ ?_
              rotate_left
              · intro w'
                go_simp
                with_reducible rfl
              rotate_left
              · simp only [Act.put, List.setIfInBounds_toArray, List.set_cons_zero, List.set_cons_succ, i64_w, i32_w]
                rfl
              refine pure_ (i := 11) (N := some 96) (v := ?_) (a' := ?_) #[true, true, true, true, true, true, true, true, true, true, true, true, false, false, false, false, false, false, false] rfl rfl (any_of HT_.out (by kernel_rfl)) (fun _ _ _ h => h) (Or.inl ⟨by rfl, ?_⟩) ?_ ?_
              rotate_left
              · intro w'
                go_simp
                with_reducible rfl
              rotate_left
              · simp only [Act.put, List.setIfInBounds_toArray, List.set_cons_zero, List.set_cons_succ, i64_w, i32_w]
                rfl
              refine two_ (i := 12) (j := 16) (Ni := some 97) (Nj := some 16) #[true, true, true, true, true, true, true, true, true, true, true, true, true, false, false, false, false, false, false] #[true, true, true, true, true, true, true, true, true, true, true, true, false, false, false, false, true, false, false] rfl rfl rfl rfl (two_of HT_.out (by kernel_rfl)) (by decide) (by decide) (fun K hK => ?_) (fun K hK => ?_)
              · skip
                refine goes_ Try.func16 (by kernel_rfl) rfl #[.string X4] (by rfl) rfl rfl (by (try simp only [List.map_toArray, List.map_cons, List.map_nil]); first | done | rfl) ?_
                with_reducible refine (HP3 _).mono ?_
                rintro e wR_4_12 ⟨rfl, hd⟩
                refine ⟨_, rfl, ?_⟩
                have n_D0 := Aside0.mk (below_then D0.out D0.out.size hd)
                have n_CB := Aside0.mk (blk_below CB.out hd)
                clear D0 CB
                have D0 := n_D0
                have CB := n_CB
                clear n_D0 n_CB
                clear hd
                refine hK.out _ _ trivial (fun hHeld => ?_)
                clear hK K
                refine norm_ (a' := ?_) ?_ ?_
                rotate_left
                · show Act.put _ (some 97) _ = _
                  simp only [Act.put, List.setIfInBounds_toArray, List.set_cons_zero, List.set_cons_succ, i64_w, i32_w]
                  rfl
                refine pure_ (i := 13) (N := some 84) (v := ?_) (a' := ?_) #[true, true, true, true, true, true, true, true, true, true, true, true, true, true, false, false, false, false, false] rfl rfl (any_of HT_.out (by kernel_rfl)) (fun _ _ _ h => h) (Or.inl ⟨by rfl, ?_⟩) ?_ ?_
                rotate_left
                · intro w'
                  go_simp
                  with_reducible rfl
                rotate_left
                · simp only [Act.put, List.setIfInBounds_toArray, List.set_cons_zero, List.set_cons_succ, i64_w, i32_w]
                  rfl
                refine pure_ (i := 14) (N := some 98) (v := ?_) (a' := ?_) #[true, true, true, true, true, true, true, true, true, true, true, true, true, true, true, false, false, false, false] rfl rfl (any_of HT_.out (by kernel_rfl)) (fun _ _ _ h => h) (Or.inl ⟨by rfl, ?_⟩) ?_ ?_
                rotate_left
                · intro w'
                  go_simp
                  with_reducible rfl
                rotate_left
                · simp only [Act.put, List.setIfInBounds_toArray, List.set_cons_zero, List.set_cons_succ, i64_w, i32_w]
                  rfl
                refine pure_ (i := 15) (N := some 99) (v := ?_) (a' := ?_) #[true, true, true, true, true, true, true, true, true, true, true, true, true, true, true, true, false, false, false] rfl rfl (any_of HT_.out (by kernel_rfl)) (fun _ _ _ h => h) (Or.inl ⟨by rfl, ?_⟩) ?_ ?_
                rotate_left
                · intro w'
                  go_simp
                  with_reducible rfl
                rotate_left
                · simp only [Act.put, List.setIfInBounds_toArray, List.set_cons_zero, List.set_cons_succ, i64_w, i32_w]
                  rfl
                refine one_ (i := 16) (N := some 16) #[true, true, true, true, true, true, true, true, true, true, true, true, true, true, true, true, true, false, false] rfl rfl (one_of HT_.out (by kernel_rfl)) (by decide) (fun K hK => ?_)
                refine value_ (w1 := ?_) (v := ?_) (by rfl) rfl ?_ ?_
                rotate_left 2
                · go_simp
                  constructor
                  · rfl
                  · rfl
                have C16 : Aside0 ((wR_4_12.alloc (.cells (brw 32 []) 24)).heap[wR_4_12.heap.size]? = some (.cells (brw 32 []) 24)) := ⟨blk_new _ _⟩
                have G16 : Aside0 (w.heap.size ≤ wR_4_12.heap.size) := ⟨D0.out.size⟩
                have n_D0 := Aside0.mk (below_alloc D0.out (.cells (brw 32 []) 24))
                have n_CB := Aside0.mk (blk_below CB.out (below_alloc (Below.refl _ _) (.cells (brw 32 []) 24)))
                clear D0 CB
                have D0 := n_D0
                have CB := n_CB
                clear n_D0 n_CB
                obtain ⟨g16, hg16⟩ : ∃ g, g = wR_4_12.heap.size := ⟨_, rfl⟩
                have PA : (Value.pointer (some ⟨wR_4_12.heap.size, 0, none⟩)) = .pointer (some ⟨g16, 0, none⟩) := by rw [hg16]
                rw [PA]
                rw [← hg16] at C16 G16
                clear PA hg16
                change K _ (wR_4_12.alloc (.cells (brw 32 []) 24))
                generalize wR_4_12.alloc (.cells (brw 32 []) 24) = wR_4_12_16 at D0 CB C16 ⊢
                refine hK.out _ _ trivial (fun hHeld => ?_)
                clear hK K
                refine norm_ (a' := ?_) ?_ ?_
                rotate_left
                · show Act.put _ (some 16) _ = _
                  simp only [Act.put, List.setIfInBounds_toArray, List.set_cons_zero, List.set_cons_succ, i64_w, i32_w]
                  rfl
                exact norm_ (by first | (simp only [putAll, Act.put, List.setIfInBounds_toArray, List.set_cons_zero, List.set_cons_succ]; done) | (simp only [putAll, Act.put, List.setIfInBounds_toArray, List.set_cons_zero, List.set_cons_succ]; rfl)) (hCont (g16, gb) _ ⟨G16.out, C16.out, D0.out⟩)
              · skip
                refine value_ (w1 := ?_) (v := ?_) (by rfl) rfl ?_ ?_
                rotate_left 2
                · go_simp
                  constructor
                  · rfl
                  · rfl
                have C16 : Aside0 ((wR_4.alloc (.cells (brw 32 []) 24)).heap[wR_4.heap.size]? = some (.cells (brw 32 []) 24)) := ⟨blk_new _ _⟩
                have G16 : Aside0 (w.heap.size ≤ wR_4.heap.size) := ⟨D0.out.size⟩
                have n_D0 := Aside0.mk (below_alloc D0.out (.cells (brw 32 []) 24))
                have n_CB := Aside0.mk (blk_below CB.out (below_alloc (Below.refl _ _) (.cells (brw 32 []) 24)))
                clear D0 CB
                have D0 := n_D0
                have CB := n_CB
                clear n_D0 n_CB
                obtain ⟨g16, hg16⟩ : ∃ g, g = wR_4.heap.size := ⟨_, rfl⟩
                have PA : (Value.pointer (some ⟨wR_4.heap.size, 0, none⟩)) = .pointer (some ⟨g16, 0, none⟩) := by rw [hg16]
                rw [PA]
                rw [← hg16] at C16 G16
                clear PA hg16
                change K _ (wR_4.alloc (.cells (brw 32 []) 24))
                generalize wR_4.alloc (.cells (brw 32 []) 24) = wR_4_16 at D0 CB C16 ⊢
                refine hK.out _ _ trivial (fun hHeld => ?_)
                clear hK K
                refine norm_ (a' := ?_) ?_ ?_
                rotate_left
                · show Act.put _ (some 16) _ = _
                  simp only [Act.put, List.setIfInBounds_toArray, List.set_cons_zero, List.set_cons_succ, i64_w, i32_w]
                  rfl
                refine one_ (i := 12) (N := some 97) #[true, true, true, true, true, true, true, true, true, true, true, true, true, false, false, false, true, false, false] rfl rfl (one_of HT_.out (by kernel_rfl)) (by decide) (fun K hK => ?_)
                refine goes_ Try.func16 (by kernel_rfl) rfl #[.string X4] (by rfl) rfl rfl (by (try simp only [List.map_toArray, List.map_cons, List.map_nil]); first | done | rfl) ?_
                with_reducible refine (HP3 _).mono ?_
                rintro e wR_4_16_12 ⟨rfl, hd⟩
                refine ⟨_, rfl, ?_⟩
                have n_D0 := Aside0.mk (below_then D0.out D0.out.size hd)
                have n_CB := Aside0.mk (blk_below CB.out hd)
                have n_C16 := Aside0.mk (blk_below C16.out hd)
                clear D0 CB C16
                have D0 := n_D0
                have CB := n_CB
                have C16 := n_C16
                clear n_D0 n_CB n_C16
                clear hd
                refine hK.out _ _ trivial (fun hHeld => ?_)
                clear hK K
                refine norm_ (a' := ?_) ?_ ?_
                rotate_left
                · show Act.put _ (some 97) _ = _
                  simp only [Act.put, List.setIfInBounds_toArray, List.set_cons_zero, List.set_cons_succ, i64_w, i32_w]
                  rfl
                refine pure_ (i := 13) (N := some 84) (v := ?_) (a' := ?_) #[true, true, true, true, true, true, true, true, true, true, true, true, true, true, false, false, true, false, false] rfl rfl (any_of HT_.out (by kernel_rfl)) (fun _ _ _ h => h) (Or.inl ⟨by rfl, ?_⟩) ?_ ?_
                rotate_left
                · intro w'
                  go_simp
                  with_reducible rfl
                rotate_left
                · simp only [Act.put, List.setIfInBounds_toArray, List.set_cons_zero, List.set_cons_succ, i64_w, i32_w]
                  rfl
                refine pure_ (i := 14) (N := some 98) (v := ?_) (a' := ?_) #[true, true, true, true, true, true, true, true, true, true, true, true, true, true, true, false, true, false, false] rfl rfl (any_of HT_.out (by kernel_rfl)) (fun _ _ _ h => h) (Or.inl ⟨by rfl, ?_⟩) ?_ ?_
                rotate_left
                · intro w'
                  go_simp
                  with_reducible rfl
                rotate_left
                · simp only [Act.put, List.setIfInBounds_toArray, List.set_cons_zero, List.set_cons_succ, i64_w, i32_w]
                  rfl
                refine pure_ (i := 15) (N := some 99) (v := ?_) (a' := ?_) #[true, true, true, true, true, true, true, true, true, true, true, true, true, true, true, true, true, false, false] rfl rfl (any_of HT_.out (by kernel_rfl)) (fun _ _ _ h => h) (Or.inl ⟨by rfl, ?_⟩) ?_ ?_
                rotate_left
                · intro w'
                  go_simp
                  with_reducible rfl
                rotate_left
                · simp only [Act.put, List.setIfInBounds_toArray, List.set_cons_zero, List.set_cons_succ, i64_w, i32_w]
                  rfl
                exact norm_ (by first | (simp only [putAll, Act.put, List.setIfInBounds_toArray, List.set_cons_zero, List.set_cons_succ]; done) | (simp only [putAll, Act.put, List.setIfInBounds_toArray, List.set_cons_zero, List.set_cons_succ]; rfl)) (hCont (g16, gb) _ ⟨G16.out, C16.out, D0.out⟩)
            · skip
              refine value_ (w1 := ?_) (v := ?_) (by rfl) rfl ?_ ?_
              rotate_left 2
              · go_simp
                constructor
                · rfl
                · rfl
              have C16 : Aside0 ((wR_4.alloc (.cells (brw 32 []) 24)).heap[wR_4.heap.size]? = some (.cells (brw 32 []) 24)) := ⟨blk_new _ _⟩
              have G16 : Aside0 (w.heap.size ≤ wR_4.heap.size) := ⟨D0.out.size⟩
              have n_D0 := Aside0.mk (below_alloc D0.out (.cells (brw 32 []) 24))
              have n_CB := Aside0.mk (blk_below CB.out (below_alloc (Below.refl _ _) (.cells (brw 32 []) 24)))
              clear D0 CB
              have D0 := n_D0
              have CB := n_CB
              clear n_D0 n_CB
              obtain ⟨g16, hg16⟩ : ∃ g, g = wR_4.heap.size := ⟨_, rfl⟩
              have PA : (Value.pointer (some ⟨wR_4.heap.size, 0, none⟩)) = .pointer (some ⟨g16, 0, none⟩) := by rw [hg16]
              rw [PA]
              rw [← hg16] at C16 G16
              clear PA hg16
              change K _ (wR_4.alloc (.cells (brw 32 []) 24))
              generalize wR_4.alloc (.cells (brw 32 []) 24) = wR_4_16 at D0 CB C16 ⊢
              refine hK.out _ _ trivial (fun hHeld => ?_)
              clear hK K
              refine norm_ (a' := ?_) ?_ ?_
              rotate_left
              · show Act.put _ (some 16) _ = _
                simp only [Act.put, List.setIfInBounds_toArray, List.set_cons_zero, List.set_cons_succ, i64_w, i32_w]
                rfl
              refine one_ (i := 5) (N := some 90) #[true, true, true, true, true, true, false, true, true, true, true, false, false, false, false, false, true, false, false] rfl rfl (one_of HT_.out (by kernel_rfl)) (by decide) (fun K hK => ?_)
              have cv := CV _ gb CB.out
              refine value_ (w1 := ?_) (v := ?_) (by rfl) rfl ?_ ?_
              rotate_left 2
              · go_simp
                constructor
                · rfl
                · rfl
              clear cv
              refine hK.out _ _ trivial (fun hHeld => ?_)
              clear hK K
              refine norm_ (a' := ?_) ?_ ?_
              rotate_left
              · show Act.put _ (some 90) _ = _
                simp only [Act.put, List.setIfInBounds_toArray, List.set_cons_zero, List.set_cons_succ, i64_w, i32_w]
                rfl
              refine pure_ (i := 6) (N := some 91) (v := ?_) (a' := ?_) #[true, true, true, true, true, true, true, true, true, true, true, false, false, false, false, false, true, false, false] rfl rfl (any_of HT_.out (by kernel_rfl)) (fun _ _ _ h => h) (Or.inl ⟨by rfl, ?_⟩) ?_ ?_
              rotate_left
              · intro w'
                go_simp
                with_reducible rfl
              rotate_left
              · simp only [Act.put, List.setIfInBounds_toArray, List.set_cons_zero, List.set_cons_succ, i64_w, i32_w]
                rfl
              refine pure_ (i := 11) (N := some 96) (v := ?_) (a' := ?_) #[true, true, true, true, true, true, true, true, true, true, true, true, false, false, false, false, true, false, false] rfl rfl (any_of HT_.out (by kernel_rfl)) (fun _ _ _ h => h) (Or.inl ⟨by rfl, ?_⟩) ?_ ?_
              rotate_left
              · intro w'
                go_simp
                with_reducible rfl
              rotate_left
              · simp only [Act.put, List.setIfInBounds_toArray, List.set_cons_zero, List.set_cons_succ, i64_w, i32_w]
                rfl
              refine one_ (i := 12) (N := some 97) #[true, true, true, true, true, true, true, true, true, true, true, true, true, false, false, false, true, false, false] rfl rfl (one_of HT_.out (by kernel_rfl)) (by decide) (fun K hK => ?_)
              refine goes_ Try.func16 (by kernel_rfl) rfl #[.string X4] (by rfl) rfl rfl (by (try simp only [List.map_toArray, List.map_cons, List.map_nil]); first | done | rfl) ?_
              with_reducible refine (HP3 _).mono ?_
              rintro e wR_4_16_12 ⟨rfl, hd⟩
              refine ⟨_, rfl, ?_⟩
              have n_D0 := Aside0.mk (below_then D0.out D0.out.size hd)
              have n_CB := Aside0.mk (blk_below CB.out hd)
              have n_C16 := Aside0.mk (blk_below C16.out hd)
              clear D0 CB C16
              have D0 := n_D0
              have CB := n_CB
              have C16 := n_C16
              clear n_D0 n_CB n_C16
              clear hd
              refine hK.out _ _ trivial (fun hHeld => ?_)
              clear hK K
              refine norm_ (a' := ?_) ?_ ?_
              rotate_left
              · show Act.put _ (some 97) _ = _
                simp only [Act.put, List.setIfInBounds_toArray, List.set_cons_zero, List.set_cons_succ, i64_w, i32_w]
                rfl
              refine pure_ (i := 13) (N := some 84) (v := ?_) (a' := ?_) #[true, true, true, true, true, true, true, true, true, true, true, true, true, true, false, false, true, false, false] rfl rfl (any_of HT_.out (by kernel_rfl)) (fun _ _ _ h => h) (Or.inl ⟨by rfl, ?_⟩) ?_ ?_
              rotate_left
              · intro w'
                go_simp
                with_reducible rfl
              rotate_left
              · simp only [Act.put, List.setIfInBounds_toArray, List.set_cons_zero, List.set_cons_succ, i64_w, i32_w]
                rfl
              refine pure_ (i := 14) (N := some 98) (v := ?_) (a' := ?_) #[true, true, true, true, true, true, true, true, true, true, true, true, true, true, true, false, true, false, false] rfl rfl (any_of HT_.out (by kernel_rfl)) (fun _ _ _ h => h) (Or.inl ⟨by rfl, ?_⟩) ?_ ?_
              rotate_left
              · intro w'
                go_simp
                with_reducible rfl
              rotate_left
              · simp only [Act.put, List.setIfInBounds_toArray, List.set_cons_zero, List.set_cons_succ, i64_w, i32_w]
                rfl
              refine pure_ (i := 15) (N := some 99) (v := ?_) (a' := ?_) #[true, true, true, true, true, true, true, true, true, true, true, true, true, true, true, true, true, false, false] rfl rfl (any_of HT_.out (by kernel_rfl)) (fun _ _ _ h => h) (Or.inl ⟨by rfl, ?_⟩) ?_ ?_
              rotate_left
              · intro w'
                go_simp
                with_reducible rfl
              rotate_left
              · simp only [Act.put, List.setIfInBounds_toArray, List.set_cons_zero, List.set_cons_succ, i64_w, i32_w]
                rfl
              exact norm_ (by first | (simp only [putAll, Act.put, List.setIfInBounds_toArray, List.set_cons_zero, List.set_cons_succ]; done) | (simp only [putAll, Act.put, List.setIfInBounds_toArray, List.set_cons_zero, List.set_cons_succ]; rfl)) (hCont (g16, gb) _ ⟨G16.out, C16.out, D0.out⟩)
          · skip
            refine value_ (w1 := ?_) (v := ?_) (by rfl) rfl ?_ ?_
            rotate_left 2
            · go_simp
              constructor
              · rfl
              · rfl
            have C16 : Aside0 ((wR.alloc (.cells (brw 32 []) 24)).heap[wR.heap.size]? = some (.cells (brw 32 []) 24)) := ⟨blk_new _ _⟩
            have G16 : Aside0 (w.heap.size ≤ wR.heap.size) := ⟨D0.out.size⟩
            have n_D0 := Aside0.mk (below_alloc D0.out (.cells (brw 32 []) 24))
            clear D0
            have D0 := n_D0
            clear n_D0
            obtain ⟨g16, hg16⟩ : ∃ g, g = wR.heap.size := ⟨_, rfl⟩
            have PA : (Value.pointer (some ⟨wR.heap.size, 0, none⟩)) = .pointer (some ⟨g16, 0, none⟩) := by rw [hg16]
            rw [PA]
            rw [← hg16] at C16 G16
            clear PA hg16
            change K _ (wR.alloc (.cells (brw 32 []) 24))
            generalize wR.alloc (.cells (brw 32 []) 24) = wR_16 at D0 C16 ⊢
            refine hK.out _ _ trivial (fun hHeld => ?_)
            clear hK K
            refine norm_ (a' := ?_) ?_ ?_
            rotate_left
            · show Act.put _ (some 16) _ = _
              simp only [Act.put, List.setIfInBounds_toArray, List.set_cons_zero, List.set_cons_succ, i64_w, i32_w]
              rfl
            refine one_ (i := 4) (N := some 89) #[true, true, true, true, true, false, false, true, true, true, true, false, false, false, false, false, true, false, false] rfl rfl (one_of HT_.out (by kernel_rfl)) (by decide) (fun K hK => ?_)
            refine value_ (w1 := ?_) (v := ?_) (by rfl) rfl ?_ ?_
            rotate_left 2
            · go_simp
              constructor
              · rfl
              · rfl
            have n_D0 := Aside0.mk (below_alloc D0.out (.cells #[.int .u8 (c.toNat : Int)] 5))
            have n_C16 := Aside0.mk (blk_below C16.out (below_alloc (Below.refl _ _) (.cells #[.int .u8 (c.toNat : Int)] 5)))
            clear D0 C16
            have D0 := n_D0
            have C16 := n_C16
            clear n_D0 n_C16
            have CB := Aside0.mk (blk_new wR_16 (.cells #[.int .u8 (c.toNat : Int)] 5))
            obtain ⟨gb, hgb⟩ : ∃ g, g = wR_16.heap.size := ⟨_, rfl⟩
            have PB : (Value.slice (some ⟨wR_16.heap.size, 0, none⟩) 1 1) = .slice (some ⟨gb, 0, none⟩) 1 1 := by rw [hgb]
            rw [PB]
            rw [← hgb] at CB
            clear PB hgb
            generalize wR_16.alloc (.cells #[.int .u8 (c.toNat : Int)] 5) = wR_16_4 at D0 CB C16 ⊢
            refine hK.out _ _ trivial (fun hHeld => ?_)
            clear hK K
            refine norm_ (a' := ?_) ?_ ?_
            rotate_left
            · show Act.put _ (some 89) _ = _
              simp only [Act.put, List.setIfInBounds_toArray, List.set_cons_zero, List.set_cons_succ, i64_w, i32_w]
              rfl
            refine one_ (i := 5) (N := some 90) #[true, true, true, true, true, true, false, true, true, true, true, false, false, false, false, false, true, false, false] rfl rfl (one_of HT_.out (by kernel_rfl)) (by decide) (fun K hK => ?_)
            have cv := CV _ gb CB.out
            refine value_ (w1 := ?_) (v := ?_) (by rfl) rfl ?_ ?_
            rotate_left 2
            · go_simp
              constructor
              · rfl
              · rfl
            clear cv
            refine hK.out _ _ trivial (fun hHeld => ?_)
            clear hK K
            refine norm_ (a' := ?_) ?_ ?_
            rotate_left
            · show Act.put _ (some 90) _ = _
              simp only [Act.put, List.setIfInBounds_toArray, List.set_cons_zero, List.set_cons_succ, i64_w, i32_w]
              rfl
            refine pure_ (i := 6) (N := some 91) (v := ?_) (a' := ?_) #[true, true, true, true, true, true, true, true, true, true, true, false, false, false, false, false, true, false, false] rfl rfl (any_of HT_.out (by kernel_rfl)) (fun _ _ _ h => h) (Or.inl ⟨by rfl, ?_⟩) ?_ ?_
            rotate_left
            · intro w'
              go_simp
              with_reducible rfl
            rotate_left
            · simp only [Act.put, List.setIfInBounds_toArray, List.set_cons_zero, List.set_cons_succ, i64_w, i32_w]
              rfl
            refine pure_ (i := 11) (N := some 96) (v := ?_) (a' := ?_) #[true, true, true, true, true, true, true, true, true, true, true, true, false, false, false, false, true, false, false] rfl rfl (any_of HT_.out (by kernel_rfl)) (fun _ _ _ h => h) (Or.inl ⟨by rfl, ?_⟩) ?_ ?_
            rotate_left
            · intro w'
              go_simp
              with_reducible rfl
            rotate_left
            · simp only [Act.put, List.setIfInBounds_toArray, List.set_cons_zero, List.set_cons_succ, i64_w, i32_w]
              rfl
            refine one_ (i := 12) (N := some 97) #[true, true, true, true, true, true, true, true, true, true, true, true, true, false, false, false, true, false, false] rfl rfl (one_of HT_.out (by kernel_rfl)) (by decide) (fun K hK => ?_)
            refine goes_ Try.func16 (by kernel_rfl) rfl #[.string X4] (by rfl) rfl rfl (by (try simp only [List.map_toArray, List.map_cons, List.map_nil]); first | done | rfl) ?_
            with_reducible refine (HP3 _).mono ?_
            rintro e wR_16_4_12 ⟨rfl, hd⟩
            refine ⟨_, rfl, ?_⟩
            have n_D0 := Aside0.mk (below_then D0.out D0.out.size hd)
            have n_CB := Aside0.mk (blk_below CB.out hd)
            have n_C16 := Aside0.mk (blk_below C16.out hd)
            clear D0 CB C16
            have D0 := n_D0
            have CB := n_CB
            have C16 := n_C16
            clear n_D0 n_CB n_C16
            clear hd
            refine hK.out _ _ trivial (fun hHeld => ?_)
            clear hK K
            refine norm_ (a' := ?_) ?_ ?_
            rotate_left
            · show Act.put _ (some 97) _ = _
              simp only [Act.put, List.setIfInBounds_toArray, List.set_cons_zero, List.set_cons_succ, i64_w, i32_w]
              rfl
            refine pure_ (i := 13) (N := some 84) (v := ?_) (a' := ?_) #[true, true, true, true, true, true, true, true, true, true, true, true, true, true, false, false, true, false, false] rfl rfl (any_of HT_.out (by kernel_rfl)) (fun _ _ _ h => h) (Or.inl ⟨by rfl, ?_⟩) ?_ ?_
            rotate_left
            · intro w'
              go_simp
              with_reducible rfl
            rotate_left
            · simp only [Act.put, List.setIfInBounds_toArray, List.set_cons_zero, List.set_cons_succ, i64_w, i32_w]
              rfl
            refine pure_ (i := 14) (N := some 98) (v := ?_) (a' := ?_) #[true, true, true, true, true, true, true, true, true, true, true, true, true, true, true, false, true, false, false] rfl rfl (any_of HT_.out (by kernel_rfl)) (fun _ _ _ h => h) (Or.inl ⟨by rfl, ?_⟩) ?_ ?_
            rotate_left
            · intro w'
              go_simp
              with_reducible rfl
            rotate_left
            · simp only [Act.put, List.setIfInBounds_toArray, List.set_cons_zero, List.set_cons_succ, i64_w, i32_w]
              rfl
            refine pure_ (i := 15) (N := some 99) (v := ?_) (a' := ?_) #[true, true, true, true, true, true, true, true, true, true, true, true, true, true, true, true, true, false, false] rfl rfl (any_of HT_.out (by kernel_rfl)) (fun _ _ _ h => h) (Or.inl ⟨by rfl, ?_⟩) ?_ ?_
            rotate_left
            · intro w'
              go_simp
              with_reducible rfl
            rotate_left
            · simp only [Act.put, List.setIfInBounds_toArray, List.set_cons_zero, List.set_cons_succ, i64_w, i32_w]
              rfl
            exact norm_ (by first | (simp only [putAll, Act.put, List.setIfInBounds_toArray, List.set_cons_zero, List.set_cons_succ]; done) | (simp only [putAll, Act.put, List.setIfInBounds_toArray, List.set_cons_zero, List.set_cons_succ]; rfl)) (hCont (g16, gb) _ ⟨G16.out, C16.out, D0.out⟩)
        clear D0 hHeld
        rintro ⟨g16, gb⟩ wS ⟨hg16, h16, hd16⟩
        dsimp only at hg16 h16
        have C16 := Aside0.mk h16
        have D0 := Aside0.mk hd16
        have G16 := Aside0.mk hg16
        clear h16 hd16 hg16
        refine norm_ (a' := ?_) ?_ ?_
        rotate_left
        · simp only [putAll, Act.put, List.setIfInBounds_toArray, List.set_cons_zero, List.set_cons_succ]
          rfl
        refine last_ (i := 17) (N := none) #[true, true, true, true, true, true, true, true, true, true, true, true, true, true, true, true, true, true, false] rfl rfl (one_of HT_.out (by kernel_rfl)) (by decide) (fun K hK => ?_)
        rw [if_pos (by rfl)]
        refine wp_store_row 24 (.tmp 16) (.tmp 98) rfl g16 (brw 32 z) rfl rfl 24 _ C16.out (by rw [hzz32]; exact i24) (by rw [hzz32, hz0]) (brw_one _ _) ?_
        refine hK.out _ _ ?_
        clear hK K
        refine norm_ (a' := ?_) ?_ ?_
        rotate_left
        · show Act.put _ (none) _ = _
          simp only [Act.put]
          rfl
        have n_C16 := Aside0.mk (setRow_heap _ g16 _ (brw 32 z) _ _ C16.out)
        have n_D0 := Aside0.mk (below_setRow D0.out G16.out (brw 32 z))
        clear C16 D0
        have C16 := n_C16
        have D0 := n_D0
        clear n_C16 n_D0
        generalize wS.setRow g16 (brw 32 z) = wT at C16 D0 ⊢
        refine pure_ (i := 18) (N := some 17) (v := ?_) (a' := ?_) #[true, true, true, true, true, true, true, true, true, true, true, true, true, true, true, true, true, true, true] rfl rfl (any_of HT_.out (by kernel_rfl)) (fun _ _ _ h => h) (Or.inl ⟨by rfl, ?_⟩) ?_ ?_
        rotate_left
        · intro w'
          go_simp
          with_reducible rfl
        rotate_left
        · simp only [Act.put, List.setIfInBounds_toArray, List.set_cons_zero, List.set_cons_succ, i64_w, i32_w]
          rfl
        refine done_ (done_of HT_.out (by kernel_rfl)) ?_
        obtain ⟨dg, hdg⟩ : ∃ b, b = okd c := ⟨_, rfl⟩
        rw [← hdg]
        clear HP3
        cases dg
        · have hdz : decide (z = Z) = true := decide_eq_true (hzz hdg.symm)
          clear hdg hzz
          go_wp2_with (first
            | (go_at_call 16; (with_reducible refine (HP4 _).mono ?_); rintro e w20 ⟨rfl, hb⟩; have n_C16 := Aside0.mk (blk_below C16.out hb); have n_D0 := Aside0.mk (below_then D0.out D0.out.size hb); clear C16 D0 hb; have C16 := n_C16; have D0 := n_D0; clear n_C16 n_D0)
            | ((with_reducible refine gate_store rfl ?_); refine wpList_store_row rfl 24 (.tmp 18) (.tmp 105) rfl w20.heap.size (brw 32 Z) rfl rfl 24 (brw 32 []) (blk_new _ _) (by rw [hzZ]; exact i24) (by rw [hzZ, hz0]) (brw_one _ _) ?_)
            | (go_at_call 16; change Calls Try.prog 16 _ ((w20.alloc (.cells (brw 32 []) 24)).setRow w20.heap.size (brw 32 Z)) _; (with_reducible refine (HP5 _).mono ?_); rintro e w21 ⟨rfl, hb⟩; have hq := below_setRow (below_alloc (Below.refl w20.heap.size w20) (.cells (brw 32 []) 24)) (Nat.le_refl _) (brw 32 Z); have n_C16 := Aside0.mk (blk_below (blk_below C16.out hq) hb); have n_D0 := Aside0.mk (below_then (below_setRow (below_alloc D0.out (.cells (brw 32 []) 24)) D0.out.size (brw 32 Z)) (below_setRow (below_alloc D0.out (.cells (brw 32 []) 24)) D0.out.size (brw 32 Z)).size hb); clear C16 D0 hb hq; have C16 := n_C16; have D0 := n_D0; clear n_C16 n_D0)
            | ((with_reducible refine gate_store rfl ?_); refine wpList_store_row rfl 24 (.tmp 20) (.tmp 115) rfl w21.heap.size (brw 32 Z) rfl rfl 24 (brw 32 []) (blk_new _ _) (by rw [hzZ]; exact i24) (by rw [hzZ, hz0]) (brw_one _ _) ?_)
            | ((with_reducible refine gate_dst (N := 131) rfl ?_); refine gate_guard (by rfl) ?_; refine wpList_load_row rfl 24 (.tmp 16) rfl g16 rfl 24 (brw 32 z) (0, 0) _ (blk_below C16.out (below_setRow (below_alloc (Below.refl w21.heap.size w21) (.cells (brw 32 []) 24)) (Nat.le_refl _) (brw 32 Z))) Try.underlying24 rfl (by rw [hzz32]; exact i24) ?_))
          go_ret
          exact ⟨rfl, below_setRow (below_alloc D0.out (.cells (brw 32 []) 24)) D0.out.size (brw 32 Z)⟩
        · clear hdg hzz
          go_wp2_with (first
            | (go_at_call 16; (with_reducible refine (HP4 _).mono ?_); rintro e w20 ⟨rfl, hb⟩; have n_C16 := Aside0.mk (blk_below C16.out hb); have n_D0 := Aside0.mk (below_then D0.out D0.out.size hb); clear C16 D0 hb; have C16 := n_C16; have D0 := n_D0; clear n_C16 n_D0)
            | ((with_reducible refine gate_store rfl ?_); refine wpList_store_row rfl 24 (.tmp 18) (.tmp 105) rfl w20.heap.size (brw 32 Z) rfl rfl 24 (brw 32 []) (blk_new _ _) (by rw [hzZ]; exact i24) (by rw [hzZ, hz0]) (brw_one _ _) ?_)
            | (go_at_call 16; change Calls Try.prog 16 _ ((w20.alloc (.cells (brw 32 []) 24)).setRow w20.heap.size (brw 32 Z)) _; (with_reducible refine (HP5 _).mono ?_); rintro e w21 ⟨rfl, hb⟩; have hq := below_setRow (below_alloc (Below.refl w20.heap.size w20) (.cells (brw 32 []) 24)) (Nat.le_refl _) (brw 32 Z); have n_C16 := Aside0.mk (blk_below (blk_below C16.out hq) hb); have n_D0 := Aside0.mk (below_then (below_setRow (below_alloc D0.out (.cells (brw 32 []) 24)) D0.out.size (brw 32 Z)) (below_setRow (below_alloc D0.out (.cells (brw 32 []) 24)) D0.out.size (brw 32 Z)).size hb); clear C16 D0 hb hq; have C16 := n_C16; have D0 := n_D0; clear n_C16 n_D0)
            | ((with_reducible refine gate_store rfl ?_); refine wpList_store_row rfl 24 (.tmp 20) (.tmp 115) rfl w21.heap.size (brw 32 Z) rfl rfl 24 (brw 32 []) (blk_new _ _) (by rw [hzZ]; exact i24) (by rw [hzZ, hz0]) (brw_one _ _) ?_)
            | ((with_reducible refine gate_dst (N := 131) rfl ?_); refine gate_guard (by rfl) ?_; refine wpList_load_row rfl 24 (.tmp 16) rfl g16 rfl 24 (brw 32 z) (0, 0) _ (blk_below C16.out (below_setRow (below_alloc (Below.refl w21.heap.size w21) (.cells (brw 32 []) 24)) (Nat.le_refl _) (brw 32 Z))) Try.underlying24 rfl (by rw [hzz32]; exact i24) ?_))
          go_ret
          exact ⟨rfl, below_setRow (below_alloc D0.out (.cells (brw 32 []) 24)) D0.out.size (brw 32 Z)⟩
      clear aK13
      rcases digit_cases c with ⟨p1, p2, p3, p4, ho⟩ | ⟨p1, p2, p3, p4, ho⟩ | ⟨p1, p2, p3, p4, ho⟩ | ⟨p1, p2, p3, p4, ho⟩ | ⟨p1, p2, p3, p4, ho⟩ <;> (
        rw [ho] at TAIL
        clear ho
        go_wp2
        try rw [q3]
        exact D0.out))
theorem back_walk' (h : List UInt8) (hh : h.length = 32) (s : ByteArray) (a c : Int) (hc : 0 ≤ c ∧ c ≤ 255) (w : World) :
    Calls Try.prog 7 #[B32 h, .string s, .int .i64 a, .int .u8 c] w fun e w' => e = .returned (.bool true) ∧ Below w.heap.size w w' := by
  have e : c = ((UInt8.ofNat c.toNat).toNat : Int) := by
    rw [UInt8.toNat_ofNat_of_lt' (by show _ < 256; omega)]; omega
  rw [e]
  exact back_walk h hh s a _ w
end Go.Proofs.Ytcmjpdfkacmogaa.Sha
