/- Chapter 2: (*hash.Writer).Sum, walked by hand. -/
import Derived.Test.YthpnppfpmhlkaaaShaR
import Derived.Test.YthpnppfpmhlkaaaShaP
import Derived.Laws.IdiomStrings
namespace Go.Proofs.Ythpnppfpmhlkaaa.Sha
open Go.RowKit Go.Proofs.Ythpnppfpmhlkaaa.X Go.Proofs.YthpnppfpmhlkaaaW.PrintWords Go.Proofs.YthpnppfpmhlkaaaW.PrintLast Go.Proofs.YthpnppfpmhlkaaaW.PrintMore
set_option linter.unusedVariables false
set_option linter.unusedSimpArgs false

theorem be8_step (v : BitVec 64) (j : Nat) (hj : j < 8) : (be8 v).take (j + 1) = (be8 v).take j ++ [UInt8.ofNat (v.toNat / 2 ^ (8 * (7 - j)) % 256)] := by
  have hl : (be8 v).length = 8 := by unfold be8; simp
  rw [List.take_add_one, List.getElem?_eq_getElem (by omega)]
  unfold be8; simp
theorem be8_val (n : BitVec 64) (j : Nat) (m : Int) (hm : m = (2 : Int) ^ (8 * (7 - j))) : IntKind.u64.wrap (8 * (n.toNat : Int)) / m % 256 = ((UInt8.ofNat ((8 * n).toNat / 2 ^ (8 * (7 - j)) % 256)).toNat : Int) := by
  have w : IntKind.u64.wrap (8 * (n.toNat : Int)) = (((8 * n).toNat : Nat) : Int) := by
    have w : ∀ n : Int, IntKind.u64.wrap n = n % 18446744073709551616 := fun _ => rfl
    rw [w, BitVec.toNat_mul]
    show _ = ((8 * n.toNat % 18446744073709551616 : Nat) : Int)
    omega
  rw [w, hm, UInt8.toNat_ofNat_of_lt' (Nat.mod_lt _ (by decide)), Int.natCast_emod, Int.natCast_ediv, Int.natCast_pow]
  rfl
theorem be8_val7 (n : BitVec 64) : IntKind.u64.wrap (8 * (n.toNat : Int)) % 256 = ((UInt8.ofNat ((8 * n).toNat / 2 ^ (8 * (7 - 7)) % 256)).toNat : Int) := by
  rw [← be8_val n 7 1 rfl, Int.ediv_one]
/-- A row of bytes as a text. -/
theorem text_brow {base : Nat} {v : Value} {l : List UInt8} {W : World} (h : BRow base v l W) : (convert 44 9 v).run Try.prog W = .ok (.string (tx l)) W := by
  obtain ⟨g, cap, cs, fr, rfl, hg, hh, hf, hs, hl, ht⟩ := h
  refine run_convert_bytes_back W 44 9 5 _ cap l Try.underlying44 Try.underlying5 Try.underlying9 (fun j hj => ?_)
  have hadd : (⟨g, 0, none⟩ : Addr).add j = ⟨g, j, none⟩ := by unfold Addr.add; split <;> simp_all
  rw [hadd, cell_of_row W g j cs 5 fr hh, ← Array.getElem?_toList]
  have h1 : (cs.toList.take l.length)[j]? = (Lib.byteCells l)[j]? := by rw [ht]
  rw [List.getElem?_take, if_pos hj] at h1
  rw [h1]
  simp [Lib.byteCells, List.getElem?_eq_getElem hj]

theorem out8_len (s : S8) : (out8 s).length = 32 := rfl
theorem out_step (s : S8) (k : Nat) (x : BitVec 32) (j : Nat) (m : Int) (hg : (out8 s).getD k 0 = UInt8.ofNat (x.toNat / 2 ^ (8 * (3 - j)) % 256)) (hm : m = (2 : Int) ^ (8 * (3 - j))) (hk : k < 32) : (brw 32 ((out8 s).take k)).setIfInBounds k (.int .u8 (enc x / m % 256)) = brw 32 ((out8 s).take (k + 1)) := by
  have hl : ((out8 s).take k).length = k := by rw [List.length_take, out8_len]; omega
  have hv : enc x / m % 256 = (((out8 s).getD k 0).toNat : Int) := by
    rw [hg, hm, UInt8.toNat_ofNat_of_lt' (Nat.mod_lt _ (by decide)), Int.natCast_emod, Int.natCast_ediv, Int.natCast_pow]; rfl
  have h := brw_set 32 ((out8 s).take k) ((out8 s).getD k 0) (by omega)
  rw [hl] at h
  rw [hv, h]
  congr 1
  rw [List.take_add_one, List.getD_eq_getElem?_getD, List.getElem?_eq_getElem (by rw [out8_len]; exact hk)]; rfl
theorem out_step3 (s : S8) (k : Nat) (x : BitVec 32) (hg : (out8 s).getD k 0 = UInt8.ofNat (x.toNat / 2 ^ (8 * (3 - 3)) % 256)) (hk : k < 32) : (brw 32 ((out8 s).take k)).setIfInBounds k (.int .u8 (enc x % 256)) = brw 32 ((out8 s).take (k + 1)) := by
  rw [← out_step s k x 3 1 hg rfl hk, Int.ediv_one]
theorem alloc_new (w : World) : (w.alloc (.cells (row 8 []) 50)).heap[w.heap.size]? = some (.cells (row 8 []) 50 (0, 0)) := blk_new _ _
def wsu.T8 : Bool × List (List Nat × List Nat) := (true, [([], []), ([0], [0]), ([1], [1]), ([2], [2]), ([], []), ([4], [4]), ([3, 5], [3, 5]), ([6], [6]), ([7], [7]), ([7], [7]), ([], []), ([10, 8, 6, 0, 1, 2, 3, 4, 5, 6, 7, 8, 10], [8, 10]), ([9, 11, 0, 1, 2, 3, 4, 5, 6, 7, 8, 9, 10, 11], [9])])
def wsu.B8 : List Nat := [0, 1, 3, 7, 0, 16, 63, 127, 255, 255, 0, 1535, 4095]
theorem wsu.tab8 : rtab .any (opsOf Try.f30 8) = wsu.T8 := by kernel_rfl
theorem wsu.bits8 : waitsOk wsu.T8.2 wsu.B8 = true := by kernel_rfl
set_option maxHeartbeats 8000000 in
set_option maxRecDepth 100000 in
theorem wsum_calls (g : Nat) (s : S8) (rest : List UInt8) (n : BitVec 64) (w : World) (hg : w.heap[g]? = some (.cells (wc s rest (n.toNat : Int)) 59 (0, 0))) (hl : rest.length < 64) :
    Calls Try.prog 30 #[.pointer (some ⟨g, 0, none⟩)] w fun e w' => e = .returned (.agg ((out8 (blk8 s (rest ++ tailOf rest.length (8 * n))).1).map fun c => Value.int .u8 c.toNat).toArray) ∧ Below w.heap.size w w' := by
  have hc8 : w.cell? ⟨g, 8, none⟩ = some (.string (tx rest)) := (blk_cell hg 8).trans rfl
  have hgl := blk_lt hg
  have HG := Aside0.mk hg
  have htr : tx rest ++ (⟨#[128]⟩ : ByteArray) = tx (rest ++ [128]) := tx_append rest [128]
  have hrs := tx_size rest
  clear hg
  have i46 : (Try.prog.info? 50).map (·.size) = some 8 := by kernel_rfl
  go_enter Try.func30, Try.ntmps30
  go_upto_region 1 with (fail)
  change Code.wp _ _ _ _ (w.alloc (.cells (Array.replicate 32 (.int .u8 0)) 23))
  have C2 : Aside0 ((w.alloc (.cells (Array.replicate 32 (.int .u8 0)) 23)).heap[w.heap.size]? = some (.cells (Array.replicate 32 (.int .u8 0)) 23 (0, 0))) := ⟨blk_new _ _⟩
  have D0 := Aside0.mk (below_alloc (Below.refl w.heap.size w) (.cells (Array.replicate 32 (.int .u8 0)) 23))
  have GG := Aside0.mk (blk_below HG.out D0.out)
  generalize w.alloc (.cells (Array.replicate 32 (.int .u8 0)) 23) = w1 at C2 D0 GG ⊢
  have S1 : Aside0 (w.heap.size < w1.heap.size) := ⟨blk_lt C2.out⟩
  have hc8' : w1.cell? ⟨g, 8, none⟩ = some (.string (tx rest)) := (blk_cell GG.out 8).trans rfl
  have hs1 : ((tx rest).size + 1 ≤ 9223372036854775807) = True := eq_true (by omega)
  have hs2 : (rest.length + 1 ≤ 9223372036854775807) = True := eq_true (by omega)
  have hs3 : ((rest.length : Int) + 1 ≤ 9223372036854775807) = True := eq_true (by omega)
  have hs4 : ((9223372036854775807 : Int) < (rest.length : Int) + 1) = False := eq_false (by omega)
  have kb := fun W => print_bytes (P := Try.prog) 9 44 5 Try.underlying9 Try.underlying44 Try.underlying5 (tx (rest ++ [128])) W
  clear hc8
  go_upto_region 2 with (fail)
  have R0 : Aside0 (BRow w1.heap.size (.slice (some ⟨w1.heap.size, 0, none⟩) (rest ++ [128]).length (grownCap w1 (rest ++ [128]).length 0 5)) (rest ++ [128] ++ List.replicate 0 0) (Lib.bytesWorld w1 5 (tx (rest ++ [128])))) := ⟨by rw [List.replicate_zero, List.append_nil]; exact bytes_brow w1 _⟩
  have E0 : Aside0 (Below w1.heap.size w1 (Lib.bytesWorld w1 5 (tx (rest ++ [128])))) := ⟨bytes_below (Below.refl _ _) (Nat.le_refl _) 5 _⟩
  go_loopw [3] (fun v W => ∃ z, z ≤ pz rest.length ∧ Aside0 (BRow w1.heap.size v (rest ++ [128] ++ List.replicate z 0) W) ∧ Aside0 (Below w1.heap.size w1 W)) (fun v _ => 200 - slLen v)
  case atStart =>
    refine ⟨0, Nat.zero_le _, ⟨?_⟩, E0⟩
    have h := R0.out
    rwa [← tx_size] at h
  case round =>
    clear R0 E0
    obtain ⟨z, hz, R1, E1⟩ := hrel
    obtain ⟨A, c, ev⟩ := brow_len R1.out
    subst ev
    obtain ⟨L, hL⟩ : ∃ L, L = rest ++ [128] ++ List.replicate z 0 := ⟨_, rfl⟩
    rw [← hL] at R1
    rw [← hL]
    have hLl : L.length = rest.length + 1 + z := by rw [hL]; simp; omega
    have hmod := pz_mod rest.length
    have hplt := pz_lt rest.length
    by_cases hlt : z < pz rest.length
    · have q1 : (((L.length : Int) % 64) != 56) = true := bne_iff_ne.mpr (by omega)
      have hLs : L.length + 1 ≤ 140737488355328 := by omega
      have hW1 := E1.out.size
      have HL := Aside0.mk hL
      have HLL := Aside0.mk hLl
      clear hL hLl hmod hplt
      go_wp2_with ((with_reducible refine gate_builtin (b := .append) (xs := #[.tmp 19, .tmp 20]) rfl ?_); go_loud (refine wpList_append_brow rfl (.tmp 19) (.tmp 20) rfl rfl w1.heap.size _ L 0 w1 ⟨_, 0, none⟩ _ rfl rfl (brow_below R1.out (below_alloc (Below.refl _ _) _)) (below_alloc E1.out _) (below_alloc E1.out _).size ((blk_cell (blk_new _ _) 0).trans rfl) hLs ?_); intro v2 w2 hr2 hb2; have R2 := Aside0.mk hr2; have E2 := Aside0.mk hb2; clear hr2 hb2)
      obtain ⟨A2, c2, ev2⟩ := brow_len R2.out
      refine ⟨⟨z + 1, by omega, ⟨?_⟩, E2⟩, ?_⟩
      · have h := R2.out
        rw [HL.out, List.append_assoc (rest ++ [128]), ← List.replicate_succ'] at h
        exact h
      · rw [ev2]
        show 200 - (L ++ [0]).length < 200 - L.length
        have h1 := HLL.out
        have h2 := pz_lt rest.length
        rw [List.length_append, List.length_singleton]; omega
    · have q1 : (((L.length : Int) % 64) != 56) = false := bne_eq_false_iff_eq.mpr (by omega)
      obtain rfl : z = pz rest.length := by omega
      have HL := Aside0.mk hL
      have HLL := Aside0.mk hLl
      clear hL hLl hmod hplt hlt hz
      go_wp2
      go_loopw [3, 4] (fun v k W => ∃ j : Nat, j ≤ 8 ∧ k = .int .i64 (56 - 8 * (j : Int)) ∧ Aside0 (BRow w1.heap.size v (L ++ (be8 (8 * n)).take j) W) ∧ Aside0 (Below w1.heap.size w1 W)) (fun v _ _ => 200 - slLen v)
      case atStart => exact ⟨0, Nat.zero_le _, rfl, ⟨by rw [List.take_zero, List.append_nil]; exact R1.out⟩, E1⟩
      case round =>
        clear R1 E1
        obtain ⟨j, hj, rfl, R1, E1⟩ := hrel
        obtain ⟨A, c, ev⟩ := brow_len R1.out
        subst ev
        have cases : j = 0 ∨ j = 1 ∨ j = 2 ∨ j = 3 ∨ j = 4 ∨ j = 5 ∨ j = 6 ∨ j = 7 ∨ j = 8 := by omega
        have hc9 : wr.cell? ⟨g, 9, none⟩ = some (.int .u64 (n.toNat : Int)) := (blk_cell (blk_below (blk_below GG.out (Below.refl _ _)) E1.out) 9).trans rfl
        rcases cases with rfl | rfl | rfl | rfl | rfl | rfl | rfl | rfl | rfl
        · have hLs : (L ++ (be8 (8 * n)).take 0).length + 1 ≤ 140737488355328 := by have h1 := HLL.out; have h2 := pz_lt rest.length; rw [List.length_append, List.length_take]; omega
          go_wp2_with ((with_reducible refine gate_builtin (b := .append) (xs := #[.tmp 26, .tmp 35]) rfl ?_); go_loud (refine wpList_append_brow rfl (.tmp 26) (.tmp 35) rfl rfl w1.heap.size _ (L ++ (be8 (8 * n)).take 0) (UInt8.ofNat ((8 * n).toNat / 2 ^ (8 * (7 - 0)) % 256)) w1 ⟨_, 0, none⟩ _ rfl rfl (brow_below R1.out (below_alloc (Below.refl _ _) _)) (below_alloc E1.out _) (below_alloc E1.out _).size ((blk_cell (blk_new _ _) 0).trans (congrArg some (congrArg (Value.int .u8) (be8_val n 0 72057594037927936 rfl)))) hLs ?_); intro v2 w2 hr2 hb2; have R2 := Aside0.mk hr2; have E2 := Aside0.mk hb2; clear hr2 hb2)
          obtain ⟨A2, c2, ev2⟩ := brow_len R2.out
          refine ⟨⟨1, by omega, rfl, ⟨?_⟩, E2⟩, ?_⟩
          · have h := R2.out
            rw [List.append_assoc L, ← be8_step (8 * n) 0 (by decide)] at h
            exact h
          · rw [ev2]
            show 200 - (L ++ (be8 (8 * n)).take 0 ++ [_]).length < 200 - (L ++ (be8 (8 * n)).take 0).length
            have h1 := HLL.out
            have h2 := pz_lt rest.length
            rw [List.length_append, List.length_singleton, List.length_append, List.length_take]; omega
        · have hLs : (L ++ (be8 (8 * n)).take 1).length + 1 ≤ 140737488355328 := by have h1 := HLL.out; have h2 := pz_lt rest.length; rw [List.length_append, List.length_take]; omega
          go_wp2_with ((with_reducible refine gate_builtin (b := .append) (xs := #[.tmp 26, .tmp 35]) rfl ?_); go_loud (refine wpList_append_brow rfl (.tmp 26) (.tmp 35) rfl rfl w1.heap.size _ (L ++ (be8 (8 * n)).take 1) (UInt8.ofNat ((8 * n).toNat / 2 ^ (8 * (7 - 1)) % 256)) w1 ⟨_, 0, none⟩ _ rfl rfl (brow_below R1.out (below_alloc (Below.refl _ _) _)) (below_alloc E1.out _) (below_alloc E1.out _).size ((blk_cell (blk_new _ _) 0).trans (congrArg some (congrArg (Value.int .u8) (be8_val n 1 281474976710656 rfl)))) hLs ?_); intro v2 w2 hr2 hb2; have R2 := Aside0.mk hr2; have E2 := Aside0.mk hb2; clear hr2 hb2)
          obtain ⟨A2, c2, ev2⟩ := brow_len R2.out
          refine ⟨⟨2, by omega, rfl, ⟨?_⟩, E2⟩, ?_⟩
          · have h := R2.out
            rw [List.append_assoc L, ← be8_step (8 * n) 1 (by decide)] at h
            exact h
          · rw [ev2]
            show 200 - (L ++ (be8 (8 * n)).take 1 ++ [_]).length < 200 - (L ++ (be8 (8 * n)).take 1).length
            have h1 := HLL.out
            have h2 := pz_lt rest.length
            rw [List.length_append, List.length_singleton, List.length_append, List.length_take]; omega
        · have hLs : (L ++ (be8 (8 * n)).take 2).length + 1 ≤ 140737488355328 := by have h1 := HLL.out; have h2 := pz_lt rest.length; rw [List.length_append, List.length_take]; omega
          go_wp2_with ((with_reducible refine gate_builtin (b := .append) (xs := #[.tmp 26, .tmp 35]) rfl ?_); go_loud (refine wpList_append_brow rfl (.tmp 26) (.tmp 35) rfl rfl w1.heap.size _ (L ++ (be8 (8 * n)).take 2) (UInt8.ofNat ((8 * n).toNat / 2 ^ (8 * (7 - 2)) % 256)) w1 ⟨_, 0, none⟩ _ rfl rfl (brow_below R1.out (below_alloc (Below.refl _ _) _)) (below_alloc E1.out _) (below_alloc E1.out _).size ((blk_cell (blk_new _ _) 0).trans (congrArg some (congrArg (Value.int .u8) (be8_val n 2 1099511627776 rfl)))) hLs ?_); intro v2 w2 hr2 hb2; have R2 := Aside0.mk hr2; have E2 := Aside0.mk hb2; clear hr2 hb2)
          obtain ⟨A2, c2, ev2⟩ := brow_len R2.out
          refine ⟨⟨3, by omega, rfl, ⟨?_⟩, E2⟩, ?_⟩
          · have h := R2.out
            rw [List.append_assoc L, ← be8_step (8 * n) 2 (by decide)] at h
            exact h
          · rw [ev2]
            show 200 - (L ++ (be8 (8 * n)).take 2 ++ [_]).length < 200 - (L ++ (be8 (8 * n)).take 2).length
            have h1 := HLL.out
            have h2 := pz_lt rest.length
            rw [List.length_append, List.length_singleton, List.length_append, List.length_take]; omega
        · have hLs : (L ++ (be8 (8 * n)).take 3).length + 1 ≤ 140737488355328 := by have h1 := HLL.out; have h2 := pz_lt rest.length; rw [List.length_append, List.length_take]; omega
          go_wp2_with ((with_reducible refine gate_builtin (b := .append) (xs := #[.tmp 26, .tmp 35]) rfl ?_); go_loud (refine wpList_append_brow rfl (.tmp 26) (.tmp 35) rfl rfl w1.heap.size _ (L ++ (be8 (8 * n)).take 3) (UInt8.ofNat ((8 * n).toNat / 2 ^ (8 * (7 - 3)) % 256)) w1 ⟨_, 0, none⟩ _ rfl rfl (brow_below R1.out (below_alloc (Below.refl _ _) _)) (below_alloc E1.out _) (below_alloc E1.out _).size ((blk_cell (blk_new _ _) 0).trans (congrArg some (congrArg (Value.int .u8) (be8_val n 3 4294967296 rfl)))) hLs ?_); intro v2 w2 hr2 hb2; have R2 := Aside0.mk hr2; have E2 := Aside0.mk hb2; clear hr2 hb2)
          obtain ⟨A2, c2, ev2⟩ := brow_len R2.out
          refine ⟨⟨4, by omega, rfl, ⟨?_⟩, E2⟩, ?_⟩
          · have h := R2.out
            rw [List.append_assoc L, ← be8_step (8 * n) 3 (by decide)] at h
            exact h
          · rw [ev2]
            show 200 - (L ++ (be8 (8 * n)).take 3 ++ [_]).length < 200 - (L ++ (be8 (8 * n)).take 3).length
            have h1 := HLL.out
            have h2 := pz_lt rest.length
            rw [List.length_append, List.length_singleton, List.length_append, List.length_take]; omega
        · have hLs : (L ++ (be8 (8 * n)).take 4).length + 1 ≤ 140737488355328 := by have h1 := HLL.out; have h2 := pz_lt rest.length; rw [List.length_append, List.length_take]; omega
          go_wp2_with ((with_reducible refine gate_builtin (b := .append) (xs := #[.tmp 26, .tmp 35]) rfl ?_); go_loud (refine wpList_append_brow rfl (.tmp 26) (.tmp 35) rfl rfl w1.heap.size _ (L ++ (be8 (8 * n)).take 4) (UInt8.ofNat ((8 * n).toNat / 2 ^ (8 * (7 - 4)) % 256)) w1 ⟨_, 0, none⟩ _ rfl rfl (brow_below R1.out (below_alloc (Below.refl _ _) _)) (below_alloc E1.out _) (below_alloc E1.out _).size ((blk_cell (blk_new _ _) 0).trans (congrArg some (congrArg (Value.int .u8) (be8_val n 4 16777216 rfl)))) hLs ?_); intro v2 w2 hr2 hb2; have R2 := Aside0.mk hr2; have E2 := Aside0.mk hb2; clear hr2 hb2)
          obtain ⟨A2, c2, ev2⟩ := brow_len R2.out
          refine ⟨⟨5, by omega, rfl, ⟨?_⟩, E2⟩, ?_⟩
          · have h := R2.out
            rw [List.append_assoc L, ← be8_step (8 * n) 4 (by decide)] at h
            exact h
          · rw [ev2]
            show 200 - (L ++ (be8 (8 * n)).take 4 ++ [_]).length < 200 - (L ++ (be8 (8 * n)).take 4).length
            have h1 := HLL.out
            have h2 := pz_lt rest.length
            rw [List.length_append, List.length_singleton, List.length_append, List.length_take]; omega
        · have hLs : (L ++ (be8 (8 * n)).take 5).length + 1 ≤ 140737488355328 := by have h1 := HLL.out; have h2 := pz_lt rest.length; rw [List.length_append, List.length_take]; omega
          go_wp2_with ((with_reducible refine gate_builtin (b := .append) (xs := #[.tmp 26, .tmp 35]) rfl ?_); go_loud (refine wpList_append_brow rfl (.tmp 26) (.tmp 35) rfl rfl w1.heap.size _ (L ++ (be8 (8 * n)).take 5) (UInt8.ofNat ((8 * n).toNat / 2 ^ (8 * (7 - 5)) % 256)) w1 ⟨_, 0, none⟩ _ rfl rfl (brow_below R1.out (below_alloc (Below.refl _ _) _)) (below_alloc E1.out _) (below_alloc E1.out _).size ((blk_cell (blk_new _ _) 0).trans (congrArg some (congrArg (Value.int .u8) (be8_val n 5 65536 rfl)))) hLs ?_); intro v2 w2 hr2 hb2; have R2 := Aside0.mk hr2; have E2 := Aside0.mk hb2; clear hr2 hb2)
          obtain ⟨A2, c2, ev2⟩ := brow_len R2.out
          refine ⟨⟨6, by omega, rfl, ⟨?_⟩, E2⟩, ?_⟩
          · have h := R2.out
            rw [List.append_assoc L, ← be8_step (8 * n) 5 (by decide)] at h
            exact h
          · rw [ev2]
            show 200 - (L ++ (be8 (8 * n)).take 5 ++ [_]).length < 200 - (L ++ (be8 (8 * n)).take 5).length
            have h1 := HLL.out
            have h2 := pz_lt rest.length
            rw [List.length_append, List.length_singleton, List.length_append, List.length_take]; omega
        · have hLs : (L ++ (be8 (8 * n)).take 6).length + 1 ≤ 140737488355328 := by have h1 := HLL.out; have h2 := pz_lt rest.length; rw [List.length_append, List.length_take]; omega
          go_wp2_with ((with_reducible refine gate_builtin (b := .append) (xs := #[.tmp 26, .tmp 35]) rfl ?_); go_loud (refine wpList_append_brow rfl (.tmp 26) (.tmp 35) rfl rfl w1.heap.size _ (L ++ (be8 (8 * n)).take 6) (UInt8.ofNat ((8 * n).toNat / 2 ^ (8 * (7 - 6)) % 256)) w1 ⟨_, 0, none⟩ _ rfl rfl (brow_below R1.out (below_alloc (Below.refl _ _) _)) (below_alloc E1.out _) (below_alloc E1.out _).size ((blk_cell (blk_new _ _) 0).trans (congrArg some (congrArg (Value.int .u8) (be8_val n 6 256 rfl)))) hLs ?_); intro v2 w2 hr2 hb2; have R2 := Aside0.mk hr2; have E2 := Aside0.mk hb2; clear hr2 hb2)
          obtain ⟨A2, c2, ev2⟩ := brow_len R2.out
          refine ⟨⟨7, by omega, rfl, ⟨?_⟩, E2⟩, ?_⟩
          · have h := R2.out
            rw [List.append_assoc L, ← be8_step (8 * n) 6 (by decide)] at h
            exact h
          · rw [ev2]
            show 200 - (L ++ (be8 (8 * n)).take 6 ++ [_]).length < 200 - (L ++ (be8 (8 * n)).take 6).length
            have h1 := HLL.out
            have h2 := pz_lt rest.length
            rw [List.length_append, List.length_singleton, List.length_append, List.length_take]; omega
        · have hLs : (L ++ (be8 (8 * n)).take 7).length + 1 ≤ 140737488355328 := by have h1 := HLL.out; have h2 := pz_lt rest.length; rw [List.length_append, List.length_take]; omega
          go_wp2_with ((with_reducible refine gate_builtin (b := .append) (xs := #[.tmp 26, .tmp 35]) rfl ?_); go_loud (refine wpList_append_brow rfl (.tmp 26) (.tmp 35) rfl rfl w1.heap.size _ (L ++ (be8 (8 * n)).take 7) (UInt8.ofNat ((8 * n).toNat / 2 ^ (8 * (7 - 7)) % 256)) w1 ⟨_, 0, none⟩ _ rfl rfl (brow_below R1.out (below_alloc (Below.refl _ _) _)) (below_alloc E1.out _) (below_alloc E1.out _).size ((blk_cell (blk_new _ _) 0).trans (congrArg some (congrArg (Value.int .u8) (be8_val7 n)))) hLs ?_); intro v2 w2 hr2 hb2; have R2 := Aside0.mk hr2; have E2 := Aside0.mk hb2; clear hr2 hb2)
          obtain ⟨A2, c2, ev2⟩ := brow_len R2.out
          refine ⟨⟨8, by omega, rfl, ⟨?_⟩, E2⟩, ?_⟩
          · have h := R2.out
            rw [List.append_assoc L, ← be8_step (8 * n) 7 (by decide)] at h
            exact h
          · rw [ev2]
            show 200 - (L ++ (be8 (8 * n)).take 7 ++ [_]).length < 200 - (L ++ (be8 (8 * n)).take 7).length
            have h1 := HLL.out
            have h2 := pz_lt rest.length
            rw [List.length_append, List.length_singleton, List.length_append, List.length_take]; omega
        · have e8 : L ++ List.take 8 (be8 (8 * n)) = rest ++ tailOf rest.length (8 * n) := by rw [HL.out, List.take_of_length_le (by unfold be8; simp)]; unfold tailOf; simp only [List.append_assoc]
          rw [e8] at R1 ⊢
          obtain ⟨M, hM⟩ : ∃ M, M = rest ++ tailOf rest.length (8 * n) := ⟨_, rfl⟩
          have HM := Aside0.mk hM
          rw [← hM] at R1 ⊢
          clear hM e8
          generalize Value.slice A M.length c = v at R1 ⊢
          have RR := R1
          have n_C2 := Aside0.mk (blk_below C2.out E1.out)
          have n_GG := Aside0.mk (blk_below (blk_below GG.out (Below.refl _ _)) E1.out)
          clear R1 C2 GG hc9
          have C2 := n_C2
          have GG := n_GG
          clear n_C2 n_GG
          obtain ⟨s2, r2, hb2⟩ : ∃ s2 r2, blk8 s M = (s2, r2) := ⟨_, _, rfl⟩
          have HCALL : ∀ W : World, Calls Try.prog 36 #[.agg (vals (lst s)), .string (tx M)] W fun e w' => e = .returned (.tuple #[.agg (vals (lst s2)), .string (tx r2)]) ∧ Below W.heap.size W w' := fun W => by have h := blocks_calls s M W; rw [hb2] at h; exact h
          have HB2 := Aside0.mk hb2
          clear hb2
          go_upto_region 8 with (fail)
          refine start_ (n := 13) (S := fun W => W.heap[g]? = some (.cells (wc s rest (n.toNat : Int)) 59 (0, 0)) ∧ BRow w1.heap.size v M W) (ds := [11]) #[false, false, false, false, false, false, false, false, false, false, false, false, false] (by kernel_rfl) rfl rfl ⟨blk_drew GG.out, brow_below RR.out (below_drew1 (Below.refl _ _))⟩ (fun hHeld => ?_); refine with_tabW wsu.tab8 wsu.bits8 (fun HT_ HW_ => ?_)
          have n_C2 := Aside0.mk (blk_drew C2.out)
          have n_GG := Aside0.mk (blk_drew GG.out)
          have n_RR := Aside0.mk (brow_below RR.out (below_drew1 (Below.refl _ _)))
          have n_E1 := Aside0.mk (below_drew1 E1.out)
          clear C2 GG RR E1
          have C2 := n_C2
          have GG := n_GG
          have RR := n_RR
          have E1 := n_E1
          clear n_C2 n_GG n_RR n_E1
          generalize World.drew _ = wR at C2 GG RR E1 hHeld ⊢
          refine pure_ (i := 0) (N := some 38) (v := ?_) (a' := ?_) #[true, false, false, false, false, false, false, false, false, false, false, false, false] rfl rfl (any_of HT_.out (by kernel_rfl)) (fun _ _ _ h => h) (Or.inl ⟨by rfl, ?_⟩) ?_ ?_
          rotate_left
          · intro w'
            go_simp
            with_reducible rfl
          rotate_left
          · simp only [Act.put, List.setIfInBounds_toArray, List.set_cons_zero, List.set_cons_succ, i64_w, i32_w]
            rfl
          refine pure_ (i := 1) (N := some 39) (v := ?_) (a' := ?_) #[true, true, false, false, false, false, false, false, false, false, false, false, false] rfl rfl (any_of HT_.out (by kernel_rfl)) (fun _ _ _ h => h) (Or.inl ⟨by rfl, ?_⟩) ?_ ?_
          rotate_left
          · intro w'
            go_simp
            with_reducible rfl
          rotate_left
          · simp only [Act.put, List.setIfInBounds_toArray, List.set_cons_zero, List.set_cons_succ, i64_w, i32_w]
            rfl
          refine pure_ (i := 2) (N := some 40) (v := ?_) (a' := ?_) #[true, true, true, false, false, false, false, false, false, false, false, false, false] rfl rfl (any_of HT_.out (by kernel_rfl)) (fun _ _ _ h => h) (Or.inl ⟨by rfl, ?_⟩) ?_ ?_
          rotate_left
          · intro w'
            go_simp
            with_reducible rfl
          rotate_left
          · simp only [Act.put, List.setIfInBounds_toArray, List.set_cons_zero, List.set_cons_succ, i64_w, i32_w]
            rfl
          refine pure_ (i := 4) (N := some 42) (v := ?_) (a' := ?_) #[true, true, true, false, true, false, false, false, false, false, false, false, false] rfl rfl (any_of HT_.out (by kernel_rfl)) (fun _ _ _ h => h) (Or.inl ⟨by rfl, ?_⟩) ?_ ?_
          rotate_left
          · intro w'
            go_simp
            with_reducible rfl
          rotate_left
          · simp only [Act.put, List.setIfInBounds_toArray, List.set_cons_zero, List.set_cons_succ, i64_w, i32_w]
            rfl
          refine take_ (i := 3) (N := some 41) (v := ?_) (a' := ?_) #[true, true, true, true, true, false, false, false, false, false, false, false, false] rfl rfl (take_ofW HT_.out HW_.out (by kernel_rfl)) (fun _ _ _ h => h) (Or.inl ⟨by rfl, ?_⟩) hHeld ?_ ?_
          rotate_left
          · rintro w' ⟨s0, s1⟩
            have y0 : w'.cell? ⟨g, 0, none⟩ = some (.int .u32 (enc s.a)) := (blk_cell s0 0).trans rfl
            have y1 : w'.cell? ⟨g, 1, none⟩ = some (.int .u32 (enc s.b)) := (blk_cell s0 1).trans rfl
            have y2 : w'.cell? ⟨g, 2, none⟩ = some (.int .u32 (enc s.c)) := (blk_cell s0 2).trans rfl
            have y3 : w'.cell? ⟨g, 3, none⟩ = some (.int .u32 (enc s.d)) := (blk_cell s0 3).trans rfl
            have y4 : w'.cell? ⟨g, 4, none⟩ = some (.int .u32 (enc s.e)) := (blk_cell s0 4).trans rfl
            have y5 : w'.cell? ⟨g, 5, none⟩ = some (.int .u32 (enc s.f)) := (blk_cell s0 5).trans rfl
            have y6 : w'.cell? ⟨g, 6, none⟩ = some (.int .u32 (enc s.g)) := (blk_cell s0 6).trans rfl
            have y7 : w'.cell? ⟨g, 7, none⟩ = some (.int .u32 (enc s.h)) := (blk_cell s0 7).trans rfl
            go_simp
            with_reducible rfl
          rotate_left
          · simp only [Act.put, List.setIfInBounds_toArray, List.set_cons_zero, List.set_cons_succ, i64_w, i32_w]
            rfl
          refine take_ (i := 5) (N := some 43) (v := ?_) (a' := ?_) #[true, true, true, true, true, true, false, false, false, false, false, false, false] rfl rfl (take_ofW HT_.out HW_.out (by kernel_rfl)) (fun _ _ _ h => h) (Or.inl ⟨by rfl, ?_⟩) hHeld ?_ ?_
          rotate_left
          · rintro w' ⟨s0, s1⟩
            have yt := text_brow s1
            go_simp
            with_reducible rfl
          rotate_left
          · simp only [Act.put, List.setIfInBounds_toArray, List.set_cons_zero, List.set_cons_succ, i64_w, i32_w]
            rfl
          refine join_ (σ := Nat) 2 #[true, true, true, true, true, true, true, true, true, true, true, false, false] (fun g5 => [(44, .tuple #[.agg (vals (lst s2)), .string (tx r2)]), (37, .tuple #[.agg (vals (lst s2)), .string (tx r2)]), (45, .agg (vals (lst s2))), (46, .string (tx r2)), (5, .pointer (some ⟨g5, 0, none⟩))]) (fun g5 w' => (w1.heap.size ≤ g5 ∧ w'.heap[g5]? = some (.cells (row 8 []) 50 (0, 0))) ∧ w'.heap[w.heap.size]? = some (.cells (Array.replicate 32 (.int .u8 0)) 23 (0, 0)) ∧ w'.heap[g]? = some (.cells (wc s rest (n.toNat : Int)) 59 (0, 0)) ∧ BRow w1.heap.size v M w' ∧ Below w1.heap.size w1 w') ?_ ?_
          rotate_left
          · intro hCont
            refine two_ (i := 6) (j := 10) (Ni := some 44) (Nj := some 5) #[true, true, true, true, true, true, true, false, false, false, false, false, false] #[true, true, true, true, true, true, false, false, false, false, true, false, false] rfl rfl rfl rfl (two_of HT_.out (by kernel_rfl)) (by decide) (by decide) (fun K hK => ?_) (fun K hK => ?_)
            · skip
              refine goes_ Try.func36 (by kernel_rfl) rfl #[.agg (vals (lst s)), .string (tx M)] (by rfl) rfl rfl (by (try simp only [List.map_toArray, List.map_cons, List.map_nil]); first | done | rfl) ?_
              with_reducible refine (HCALL _).mono ?_
              rintro e w11 ⟨rfl, hd⟩
              refine ⟨_, rfl, ?_⟩
              have n_C2 := Aside0.mk (blk_below C2.out hd)
              have n_GG := Aside0.mk (blk_below GG.out hd)
              have n_RR := Aside0.mk (brow_below RR.out hd)
              have n_E1 := Aside0.mk (below_then E1.out E1.out.size hd)
              clear C2 GG RR E1
              have C2 := n_C2
              have GG := n_GG
              have RR := n_RR
              have E1 := n_E1
              clear n_C2 n_GG n_RR n_E1
              clear hd
              refine hK.out _ _ ⟨GG.out, RR.out⟩ (fun hHeld => ?_)
              clear hK K
              refine norm_ (a' := ?_) ?_ ?_
              rotate_left
              · show Act.put _ (some 44) _ = _
                simp only [Act.put, List.setIfInBounds_toArray, List.set_cons_zero, List.set_cons_succ, i64_w, i32_w]
                rfl
              refine pure_ (i := 7) (N := some 37) (v := ?_) (a' := ?_) #[true, true, true, true, true, true, true, true, false, false, false, false, false] rfl rfl (any_of HT_.out (by kernel_rfl)) (fun _ _ _ h => h) (Or.inl ⟨by rfl, ?_⟩) ?_ ?_
              rotate_left
              · intro w'
                go_simp
                with_reducible rfl
              rotate_left
              · simp only [Act.put, List.setIfInBounds_toArray, List.set_cons_zero, List.set_cons_succ, i64_w, i32_w]
                rfl
              refine pure_ (i := 8) (N := some 45) (v := ?_) (a' := ?_) #[true, true, true, true, true, true, true, true, true, false, false, false, false] rfl rfl (any_of HT_.out (by kernel_rfl)) (fun _ _ _ h => h) (Or.inl ⟨by rfl, ?_⟩) ?_ ?_
              rotate_left
              · intro w'
                go_simp
                with_reducible rfl
              rotate_left
              · simp only [Act.put, List.setIfInBounds_toArray, List.set_cons_zero, List.set_cons_succ, i64_w, i32_w]
                rfl
              refine pure_ (i := 9) (N := some 46) (v := ?_) (a' := ?_) #[true, true, true, true, true, true, true, true, true, true, false, false, false] rfl rfl (any_of HT_.out (by kernel_rfl)) (fun _ _ _ h => h) (Or.inl ⟨by rfl, ?_⟩) ?_ ?_
              rotate_left
              · intro w'
                go_simp
                with_reducible rfl
              rotate_left
              · simp only [Act.put, List.setIfInBounds_toArray, List.set_cons_zero, List.set_cons_succ, i64_w, i32_w]
                rfl
              refine one_ (i := 10) (N := some 5) #[true, true, true, true, true, true, true, true, true, true, true, false, false] rfl rfl (one_of HT_.out (by kernel_rfl)) (by decide) (fun K hK => ?_)
              refine value_ (w1 := ?_) (v := ?_) (by rfl) rfl ?_ ?_
              rotate_left 2
              · go_simp
                constructor
                · rfl
                · rfl
              have C5 := Aside0.mk (alloc_new w11)
              have G5 : Aside0 (w1.heap.size ≤ w11.heap.size) := ⟨E1.out.size⟩
              have n_C2 := Aside0.mk (blk_below C2.out (below_alloc (Below.refl _ _) (.cells (row 8 []) 50)))
              have n_GG := Aside0.mk (blk_below GG.out (below_alloc (Below.refl _ _) (.cells (row 8 []) 50)))
              have n_RR := Aside0.mk (brow_below RR.out (below_alloc (Below.refl _ _) (.cells (row 8 []) 50)))
              have n_E1 := Aside0.mk (below_alloc E1.out (.cells (row 8 []) 50))
              clear C2 GG RR E1
              have C2 := n_C2
              have GG := n_GG
              have RR := n_RR
              have E1 := n_E1
              clear n_C2 n_GG n_RR n_E1
              refine hK.out _ _ ⟨GG.out, RR.out⟩ (fun hHeld => ?_)
              clear hK K
              refine norm_ (a' := ?_) ?_ ?_
              rotate_left
              · show Act.put _ (some 5) _ = _
                simp only [Act.put, List.setIfInBounds_toArray, List.set_cons_zero, List.set_cons_succ, i64_w, i32_w]
                rfl
              exact norm_ (by first | (simp only [putAll, Act.put, List.setIfInBounds_toArray, List.set_cons_zero, List.set_cons_succ]; done) | (simp only [putAll, Act.put, List.setIfInBounds_toArray, List.set_cons_zero, List.set_cons_succ]; rfl)) (hCont _ _ ⟨⟨G5.out, C5.out⟩, C2.out, GG.out, RR.out, E1.out⟩)
            · skip
              refine value_ (w1 := ?_) (v := ?_) (by rfl) rfl ?_ ?_
              rotate_left 2
              · go_simp
                constructor
                · rfl
                · rfl
              have C5 := Aside0.mk (alloc_new wR)
              have G5 : Aside0 (w1.heap.size ≤ wR.heap.size) := ⟨E1.out.size⟩
              have n_C2 := Aside0.mk (blk_below C2.out (below_alloc (Below.refl _ _) (.cells (row 8 []) 50)))
              have n_GG := Aside0.mk (blk_below GG.out (below_alloc (Below.refl _ _) (.cells (row 8 []) 50)))
              have n_RR := Aside0.mk (brow_below RR.out (below_alloc (Below.refl _ _) (.cells (row 8 []) 50)))
              have n_E1 := Aside0.mk (below_alloc E1.out (.cells (row 8 []) 50))
              clear C2 GG RR E1
              have C2 := n_C2
              have GG := n_GG
              have RR := n_RR
              have E1 := n_E1
              clear n_C2 n_GG n_RR n_E1
              refine hK.out _ _ ⟨GG.out, RR.out⟩ (fun hHeld => ?_)
              clear hK K
              refine norm_ (a' := ?_) ?_ ?_
              rotate_left
              · show Act.put _ (some 5) _ = _
                simp only [Act.put, List.setIfInBounds_toArray, List.set_cons_zero, List.set_cons_succ, i64_w, i32_w]
                rfl
              refine one_ (i := 6) (N := some 44) #[true, true, true, true, true, true, true, false, false, false, true, false, false] rfl rfl (one_of HT_.out (by kernel_rfl)) (by decide) (fun K hK => ?_)
              refine goes_ Try.func36 (by kernel_rfl) rfl #[.agg (vals (lst s)), .string (tx M)] (by rfl) rfl rfl (by (try simp only [List.map_toArray, List.map_cons, List.map_nil]); first | done | rfl) ?_
              with_reducible refine (HCALL _).mono ?_
              rintro e w11 ⟨rfl, hd⟩
              refine ⟨_, rfl, ?_⟩
              have n_C5 := Aside0.mk (blk_below C5.out hd)
              clear C5
              have C5 := n_C5
              clear n_C5
              have n_C2 := Aside0.mk (blk_below C2.out hd)
              have n_GG := Aside0.mk (blk_below GG.out hd)
              have n_RR := Aside0.mk (brow_below RR.out hd)
              have n_E1 := Aside0.mk (below_then E1.out E1.out.size hd)
              clear C2 GG RR E1
              have C2 := n_C2
              have GG := n_GG
              have RR := n_RR
              have E1 := n_E1
              clear n_C2 n_GG n_RR n_E1
              clear hd
              refine hK.out _ _ ⟨GG.out, RR.out⟩ (fun hHeld => ?_)
              clear hK K
              refine norm_ (a' := ?_) ?_ ?_
              rotate_left
              · show Act.put _ (some 44) _ = _
                simp only [Act.put, List.setIfInBounds_toArray, List.set_cons_zero, List.set_cons_succ, i64_w, i32_w]
                rfl
              refine pure_ (i := 7) (N := some 37) (v := ?_) (a' := ?_) #[true, true, true, true, true, true, true, true, false, false, true, false, false] rfl rfl (any_of HT_.out (by kernel_rfl)) (fun _ _ _ h => h) (Or.inl ⟨by rfl, ?_⟩) ?_ ?_
              rotate_left
              · intro w'
                go_simp
                with_reducible rfl
              rotate_left
              · simp only [Act.put, List.setIfInBounds_toArray, List.set_cons_zero, List.set_cons_succ, i64_w, i32_w]
                rfl
              refine pure_ (i := 8) (N := some 45) (v := ?_) (a' := ?_) #[true, true, true, true, true, true, true, true, true, false, true, false, false] rfl rfl (any_of HT_.out (by kernel_rfl)) (fun _ _ _ h => h) (Or.inl ⟨by rfl, ?_⟩) ?_ ?_
              rotate_left
              · intro w'
                go_simp
                with_reducible rfl
              rotate_left
              · simp only [Act.put, List.setIfInBounds_toArray, List.set_cons_zero, List.set_cons_succ, i64_w, i32_w]
                rfl
              refine pure_ (i := 9) (N := some 46) (v := ?_) (a' := ?_) #[true, true, true, true, true, true, true, true, true, true, true, false, false] rfl rfl (any_of HT_.out (by kernel_rfl)) (fun _ _ _ h => h) (Or.inl ⟨by rfl, ?_⟩) ?_ ?_
              rotate_left
              · intro w'
                go_simp
                with_reducible rfl
              rotate_left
              · simp only [Act.put, List.setIfInBounds_toArray, List.set_cons_zero, List.set_cons_succ, i64_w, i32_w]
                rfl
              exact norm_ (by first | (simp only [putAll, Act.put, List.setIfInBounds_toArray, List.set_cons_zero, List.set_cons_succ]; done) | (simp only [putAll, Act.put, List.setIfInBounds_toArray, List.set_cons_zero, List.set_cons_succ]; rfl)) (hCont _ _ ⟨⟨G5.out, C5.out⟩, C2.out, GG.out, RR.out, E1.out⟩)
          clear C2 GG RR E1 hHeld
          rintro g5 wS ⟨⟨hg5, h5⟩, h2, hg', hr', he'⟩
          have C5 := Aside0.mk h5
          have G5 := Aside0.mk hg5
          have C2 := Aside0.mk h2
          have GG := Aside0.mk hg'
          have E1 := Aside0.mk he'
          clear h5 hg5 h2 hg' hr' he'
          refine norm_ (a' := ?_) ?_ ?_
          rotate_left
          · simp only [putAll, Act.put, List.setIfInBounds_toArray, List.set_cons_zero, List.set_cons_succ]
            rfl
          refine last_ (i := 11) (N := none) #[true, true, true, true, true, true, true, true, true, true, true, true, false] rfl rfl (one_of HT_.out (by kernel_rfl)) (by decide) (fun K hK => ?_)
          rw [if_pos (by rfl)]
          refine wp_store_row 50 (.tmp 5) (.tmp 45) rfl g5 (vals (lst s2)) rfl rfl 50 _ C5.out (by rw [show (vals (lst s2)).size = 8 from rfl]; exact i46) rfl (vals_one _) ?_
          refine hK.out _ _ ?_
          clear hK K
          refine norm_ (a' := ?_) ?_ ?_
          rotate_left
          · show Act.put _ none _ = _
            simp only [Act.put]
            rfl
          have n_C5 := Aside0.mk (setRow_heap _ g5 _ (vals (lst s2)) _ _ C5.out)
          have n_C2 := Aside0.mk ((setRow_other wS g5 _ (vals (lst s2)) (fun e => by have := G5.out; have := blk_lt C2.out; have := S1.out; omega)).trans C2.out)
          have n_E1 := Aside0.mk (below_setRow E1.out G5.out (vals (lst s2)))
          clear C5 C2 E1
          have C5 := n_C5
          have C2 := n_C2
          have E1 := n_E1
          clear n_C5 n_C2 n_E1
          generalize wS.setRow g5 (vals (lst s2)) = wT at C5 C2 E1 ⊢
          refine pure_ (i := 12) (N := some 6) (v := ?_) (a' := ?_) #[true, true, true, true, true, true, true, true, true, true, true, true, true] rfl rfl (any_of HT_.out (by kernel_rfl)) (fun _ _ _ h => h) (Or.inl ⟨by rfl, ?_⟩) ?_ ?_
          rotate_left
          · intro w'
            go_simp
            with_reducible rfl
          rotate_left
          · simp only [Act.put, List.setIfInBounds_toArray, List.set_cons_zero, List.set_cons_succ, i64_w, i32_w]
            rfl
          refine done_ (done_of HT_.out (by kernel_rfl)) ?_
          have hO := out8_len s2
          go_upto_region 10 with (fail)
          change Code.wp _ _ _ _ (wT.alloc (.cells (brw 32 []) 23))
          have C7 : Aside0 ((wT.alloc (.cells (brw 32 ((out8 s2).take 0)) 23)).heap[wT.heap.size]? = some (.cells (brw 32 ((out8 s2).take 0)) 23 (0, 0))) := ⟨blk_new _ _⟩
          have n_C5 := Aside0.mk (blk_below C5.out (below_alloc (Below.refl _ _) (.cells (brw 32 []) 23)))
          have n_C2 := Aside0.mk (blk_below C2.out (below_alloc (Below.refl _ _) (.cells (brw 32 []) 23)))
          have n_E1 := Aside0.mk (below_alloc E1.out (.cells (brw 32 []) 23))
          have G7 : Aside0 (w1.heap.size ≤ wT.heap.size) := ⟨E1.out.size⟩
          have N57 : Aside0 (g5 ≠ wT.heap.size) := ⟨by have := blk_lt C5.out; omega⟩
          have N27 : Aside0 (w.heap.size ≠ wT.heap.size) := ⟨by have := blk_lt C2.out; omega⟩
          clear C5 C2 E1
          have C5 := n_C5
          have C2 := n_C2
          have E1 := n_E1
          clear n_C5 n_C2 n_E1
          obtain ⟨g7, hg7⟩ : ∃ g, g = wT.heap.size := ⟨_, rfl⟩
          have P7 : (Value.pointer (some ⟨wT.heap.size, 0, none⟩)) = .pointer (some ⟨g7, 0, none⟩) := by rw [hg7]
          rw [P7]
          rw [← hg7] at C7 G7 N57 N27
          clear P7 hg7
          rw [List.take_zero] at C7
          generalize wT.alloc (.cells (brw 32 []) 23) = wU at C7 C5 C2 E1 ⊢
          go_wp2
          go_loopw [47] (fun v W => ∃ i : Nat, i ≤ 32 ∧ v = .int .i64 i ∧ Aside0 (W.heap[g7]? = some (.cells (brw 32 ((out8 s2).take i)) 23 (0, 0))) ∧ Aside0 (W.heap[g5]? = some (.cells (vals (lst s2)) 50 (0, 0))) ∧ Aside0 (W.heap[w.heap.size]? = some (.cells (Array.replicate 32 (.int .u8 0)) 23 (0, 0))) ∧ Aside0 (Below w1.heap.size w1 W)) (fun v _ => 32 - (intOf v).toNat)
          case atStart => exact ⟨0, Nat.zero_le _, rfl, C7, C5, C2, E1⟩
          case round =>
            clear C7 C5 C2 E1
            obtain ⟨i, hi, rfl, C7, C5, C2, E1⟩ := hrel
            have cases : i = 0 ∨ i = 1 ∨ i = 2 ∨ i = 3 ∨ i = 4 ∨ i = 5 ∨ i = 6 ∨ i = 7 ∨ i = 8 ∨ i = 9 ∨ i = 10 ∨ i = 11 ∨ i = 12 ∨ i = 13 ∨ i = 14 ∨ i = 15 ∨ i = 16 ∨ i = 17 ∨ i = 18 ∨ i = 19 ∨ i = 20 ∨ i = 21 ∨ i = 22 ∨ i = 23 ∨ i = 24 ∨ i = 25 ∨ i = 26 ∨ i = 27 ∨ i = 28 ∨ i = 29 ∨ i = 30 ∨ i = 31 ∨ i = 32 := by omega
            rcases cases with rfl | rfl | rfl | rfl | rfl | rfl | rfl | rfl | rfl | rfl | rfl | rfl | rfl | rfl | rfl | rfl | rfl | rfl | rfl | rfl | rfl | rfl | rfl | rfl | rfl | rfl | rfl | rfl | rfl | rfl | rfl | rfl | rfl
            · have hx : wr.cell? ⟨g5, 0, none⟩ = some (.int .u32 (enc s2.a)) := (blk_cell C5.out 0).trans rfl
              have hz : wr.cell? ⟨g7, 0, none⟩ = some (.int .u8 0) := (blk_cell C7.out 0).trans (brw_new 32 _ 0 (by rw [List.length_take]; omega) (by decide))
              have hf := blk_frozen C7.out 0
              go_wp2
              go_roundw
              case rel => exact ⟨1, by omega, by go_num, ⟨(blk_put C7.out 0 _ rfl).trans (congrArg some (by rw [out_step s2 0 s2.a 0 16777216 rfl rfl (by decide)]))⟩, ⟨blk_far C5.out (p := ⟨g7, 0, none⟩) N57.out _⟩, ⟨blk_far C2.out (p := ⟨g7, 0, none⟩) N27.out _⟩, ⟨below_set' E1.out G7.out⟩⟩
              case measure => simp [intOf]
            · have hx : wr.cell? ⟨g5, 0, none⟩ = some (.int .u32 (enc s2.a)) := (blk_cell C5.out 0).trans rfl
              have hz : wr.cell? ⟨g7, 1, none⟩ = some (.int .u8 0) := (blk_cell C7.out 1).trans (brw_new 32 _ 1 (by rw [List.length_take]; omega) (by decide))
              have hf := blk_frozen C7.out 1
              go_wp2
              go_roundw
              case rel => exact ⟨2, by omega, by go_num, ⟨(blk_put C7.out 1 _ rfl).trans (congrArg some (by rw [out_step s2 1 s2.a 1 65536 rfl rfl (by decide)]))⟩, ⟨blk_far C5.out (p := ⟨g7, 1, none⟩) N57.out _⟩, ⟨blk_far C2.out (p := ⟨g7, 1, none⟩) N27.out _⟩, ⟨below_set' E1.out G7.out⟩⟩
              case measure => simp [intOf]
            · have hx : wr.cell? ⟨g5, 0, none⟩ = some (.int .u32 (enc s2.a)) := (blk_cell C5.out 0).trans rfl
              have hz : wr.cell? ⟨g7, 2, none⟩ = some (.int .u8 0) := (blk_cell C7.out 2).trans (brw_new 32 _ 2 (by rw [List.length_take]; omega) (by decide))
              have hf := blk_frozen C7.out 2
              go_wp2
              go_roundw
              case rel => exact ⟨3, by omega, by go_num, ⟨(blk_put C7.out 2 _ rfl).trans (congrArg some (by rw [out_step s2 2 s2.a 2 256 rfl rfl (by decide)]))⟩, ⟨blk_far C5.out (p := ⟨g7, 2, none⟩) N57.out _⟩, ⟨blk_far C2.out (p := ⟨g7, 2, none⟩) N27.out _⟩, ⟨below_set' E1.out G7.out⟩⟩
              case measure => simp [intOf]
            · have hx : wr.cell? ⟨g5, 0, none⟩ = some (.int .u32 (enc s2.a)) := (blk_cell C5.out 0).trans rfl
              have hz : wr.cell? ⟨g7, 3, none⟩ = some (.int .u8 0) := (blk_cell C7.out 3).trans (brw_new 32 _ 3 (by rw [List.length_take]; omega) (by decide))
              have hf := blk_frozen C7.out 3
              go_wp2
              go_roundw
              case rel => exact ⟨4, by omega, by go_num, ⟨(blk_put C7.out 3 _ rfl).trans (congrArg some (by rw [out_step3 s2 3 s2.a rfl (by decide)]))⟩, ⟨blk_far C5.out (p := ⟨g7, 3, none⟩) N57.out _⟩, ⟨blk_far C2.out (p := ⟨g7, 3, none⟩) N27.out _⟩, ⟨below_set' E1.out G7.out⟩⟩
              case measure => simp [intOf]
            · have hx : wr.cell? ⟨g5, 1, none⟩ = some (.int .u32 (enc s2.b)) := (blk_cell C5.out 1).trans rfl
              have hz : wr.cell? ⟨g7, 4, none⟩ = some (.int .u8 0) := (blk_cell C7.out 4).trans (brw_new 32 _ 4 (by rw [List.length_take]; omega) (by decide))
              have hf := blk_frozen C7.out 4
              go_wp2
              go_roundw
              case rel => exact ⟨5, by omega, by go_num, ⟨(blk_put C7.out 4 _ rfl).trans (congrArg some (by rw [out_step s2 4 s2.b 0 16777216 rfl rfl (by decide)]))⟩, ⟨blk_far C5.out (p := ⟨g7, 4, none⟩) N57.out _⟩, ⟨blk_far C2.out (p := ⟨g7, 4, none⟩) N27.out _⟩, ⟨below_set' E1.out G7.out⟩⟩
              case measure => simp [intOf]
            · have hx : wr.cell? ⟨g5, 1, none⟩ = some (.int .u32 (enc s2.b)) := (blk_cell C5.out 1).trans rfl
              have hz : wr.cell? ⟨g7, 5, none⟩ = some (.int .u8 0) := (blk_cell C7.out 5).trans (brw_new 32 _ 5 (by rw [List.length_take]; omega) (by decide))
              have hf := blk_frozen C7.out 5
              go_wp2
              go_roundw
              case rel => exact ⟨6, by omega, by go_num, ⟨(blk_put C7.out 5 _ rfl).trans (congrArg some (by rw [out_step s2 5 s2.b 1 65536 rfl rfl (by decide)]))⟩, ⟨blk_far C5.out (p := ⟨g7, 5, none⟩) N57.out _⟩, ⟨blk_far C2.out (p := ⟨g7, 5, none⟩) N27.out _⟩, ⟨below_set' E1.out G7.out⟩⟩
              case measure => simp [intOf]
            · have hx : wr.cell? ⟨g5, 1, none⟩ = some (.int .u32 (enc s2.b)) := (blk_cell C5.out 1).trans rfl
              have hz : wr.cell? ⟨g7, 6, none⟩ = some (.int .u8 0) := (blk_cell C7.out 6).trans (brw_new 32 _ 6 (by rw [List.length_take]; omega) (by decide))
              have hf := blk_frozen C7.out 6
              go_wp2
              go_roundw
              case rel => exact ⟨7, by omega, by go_num, ⟨(blk_put C7.out 6 _ rfl).trans (congrArg some (by rw [out_step s2 6 s2.b 2 256 rfl rfl (by decide)]))⟩, ⟨blk_far C5.out (p := ⟨g7, 6, none⟩) N57.out _⟩, ⟨blk_far C2.out (p := ⟨g7, 6, none⟩) N27.out _⟩, ⟨below_set' E1.out G7.out⟩⟩
              case measure => simp [intOf]
            · have hx : wr.cell? ⟨g5, 1, none⟩ = some (.int .u32 (enc s2.b)) := (blk_cell C5.out 1).trans rfl
              have hz : wr.cell? ⟨g7, 7, none⟩ = some (.int .u8 0) := (blk_cell C7.out 7).trans (brw_new 32 _ 7 (by rw [List.length_take]; omega) (by decide))
              have hf := blk_frozen C7.out 7
              go_wp2
              go_roundw
              case rel => exact ⟨8, by omega, by go_num, ⟨(blk_put C7.out 7 _ rfl).trans (congrArg some (by rw [out_step3 s2 7 s2.b rfl (by decide)]))⟩, ⟨blk_far C5.out (p := ⟨g7, 7, none⟩) N57.out _⟩, ⟨blk_far C2.out (p := ⟨g7, 7, none⟩) N27.out _⟩, ⟨below_set' E1.out G7.out⟩⟩
              case measure => simp [intOf]
            · have hx : wr.cell? ⟨g5, 2, none⟩ = some (.int .u32 (enc s2.c)) := (blk_cell C5.out 2).trans rfl
              have hz : wr.cell? ⟨g7, 8, none⟩ = some (.int .u8 0) := (blk_cell C7.out 8).trans (brw_new 32 _ 8 (by rw [List.length_take]; omega) (by decide))
              have hf := blk_frozen C7.out 8
              go_wp2
              go_roundw
              case rel => exact ⟨9, by omega, by go_num, ⟨(blk_put C7.out 8 _ rfl).trans (congrArg some (by rw [out_step s2 8 s2.c 0 16777216 rfl rfl (by decide)]))⟩, ⟨blk_far C5.out (p := ⟨g7, 8, none⟩) N57.out _⟩, ⟨blk_far C2.out (p := ⟨g7, 8, none⟩) N27.out _⟩, ⟨below_set' E1.out G7.out⟩⟩
              case measure => simp [intOf]
            · have hx : wr.cell? ⟨g5, 2, none⟩ = some (.int .u32 (enc s2.c)) := (blk_cell C5.out 2).trans rfl
              have hz : wr.cell? ⟨g7, 9, none⟩ = some (.int .u8 0) := (blk_cell C7.out 9).trans (brw_new 32 _ 9 (by rw [List.length_take]; omega) (by decide))
              have hf := blk_frozen C7.out 9
              go_wp2
              go_roundw
              case rel => exact ⟨10, by omega, by go_num, ⟨(blk_put C7.out 9 _ rfl).trans (congrArg some (by rw [out_step s2 9 s2.c 1 65536 rfl rfl (by decide)]))⟩, ⟨blk_far C5.out (p := ⟨g7, 9, none⟩) N57.out _⟩, ⟨blk_far C2.out (p := ⟨g7, 9, none⟩) N27.out _⟩, ⟨below_set' E1.out G7.out⟩⟩
              case measure => simp [intOf]
            · have hx : wr.cell? ⟨g5, 2, none⟩ = some (.int .u32 (enc s2.c)) := (blk_cell C5.out 2).trans rfl
              have hz : wr.cell? ⟨g7, 10, none⟩ = some (.int .u8 0) := (blk_cell C7.out 10).trans (brw_new 32 _ 10 (by rw [List.length_take]; omega) (by decide))
              have hf := blk_frozen C7.out 10
              go_wp2
              go_roundw
              case rel => exact ⟨11, by omega, by go_num, ⟨(blk_put C7.out 10 _ rfl).trans (congrArg some (by rw [out_step s2 10 s2.c 2 256 rfl rfl (by decide)]))⟩, ⟨blk_far C5.out (p := ⟨g7, 10, none⟩) N57.out _⟩, ⟨blk_far C2.out (p := ⟨g7, 10, none⟩) N27.out _⟩, ⟨below_set' E1.out G7.out⟩⟩
              case measure => simp [intOf]
            · have hx : wr.cell? ⟨g5, 2, none⟩ = some (.int .u32 (enc s2.c)) := (blk_cell C5.out 2).trans rfl
              have hz : wr.cell? ⟨g7, 11, none⟩ = some (.int .u8 0) := (blk_cell C7.out 11).trans (brw_new 32 _ 11 (by rw [List.length_take]; omega) (by decide))
              have hf := blk_frozen C7.out 11
              go_wp2
              go_roundw
              case rel => exact ⟨12, by omega, by go_num, ⟨(blk_put C7.out 11 _ rfl).trans (congrArg some (by rw [out_step3 s2 11 s2.c rfl (by decide)]))⟩, ⟨blk_far C5.out (p := ⟨g7, 11, none⟩) N57.out _⟩, ⟨blk_far C2.out (p := ⟨g7, 11, none⟩) N27.out _⟩, ⟨below_set' E1.out G7.out⟩⟩
              case measure => simp [intOf]
            · have hx : wr.cell? ⟨g5, 3, none⟩ = some (.int .u32 (enc s2.d)) := (blk_cell C5.out 3).trans rfl
              have hz : wr.cell? ⟨g7, 12, none⟩ = some (.int .u8 0) := (blk_cell C7.out 12).trans (brw_new 32 _ 12 (by rw [List.length_take]; omega) (by decide))
              have hf := blk_frozen C7.out 12
              go_wp2
              go_roundw
              case rel => exact ⟨13, by omega, by go_num, ⟨(blk_put C7.out 12 _ rfl).trans (congrArg some (by rw [out_step s2 12 s2.d 0 16777216 rfl rfl (by decide)]))⟩, ⟨blk_far C5.out (p := ⟨g7, 12, none⟩) N57.out _⟩, ⟨blk_far C2.out (p := ⟨g7, 12, none⟩) N27.out _⟩, ⟨below_set' E1.out G7.out⟩⟩
              case measure => simp [intOf]
            · have hx : wr.cell? ⟨g5, 3, none⟩ = some (.int .u32 (enc s2.d)) := (blk_cell C5.out 3).trans rfl
              have hz : wr.cell? ⟨g7, 13, none⟩ = some (.int .u8 0) := (blk_cell C7.out 13).trans (brw_new 32 _ 13 (by rw [List.length_take]; omega) (by decide))
              have hf := blk_frozen C7.out 13
              go_wp2
              go_roundw
              case rel => exact ⟨14, by omega, by go_num, ⟨(blk_put C7.out 13 _ rfl).trans (congrArg some (by rw [out_step s2 13 s2.d 1 65536 rfl rfl (by decide)]))⟩, ⟨blk_far C5.out (p := ⟨g7, 13, none⟩) N57.out _⟩, ⟨blk_far C2.out (p := ⟨g7, 13, none⟩) N27.out _⟩, ⟨below_set' E1.out G7.out⟩⟩
              case measure => simp [intOf]
            · have hx : wr.cell? ⟨g5, 3, none⟩ = some (.int .u32 (enc s2.d)) := (blk_cell C5.out 3).trans rfl
              have hz : wr.cell? ⟨g7, 14, none⟩ = some (.int .u8 0) := (blk_cell C7.out 14).trans (brw_new 32 _ 14 (by rw [List.length_take]; omega) (by decide))
              have hf := blk_frozen C7.out 14
              go_wp2
              go_roundw
              case rel => exact ⟨15, by omega, by go_num, ⟨(blk_put C7.out 14 _ rfl).trans (congrArg some (by rw [out_step s2 14 s2.d 2 256 rfl rfl (by decide)]))⟩, ⟨blk_far C5.out (p := ⟨g7, 14, none⟩) N57.out _⟩, ⟨blk_far C2.out (p := ⟨g7, 14, none⟩) N27.out _⟩, ⟨below_set' E1.out G7.out⟩⟩
              case measure => simp [intOf]
            · have hx : wr.cell? ⟨g5, 3, none⟩ = some (.int .u32 (enc s2.d)) := (blk_cell C5.out 3).trans rfl
              have hz : wr.cell? ⟨g7, 15, none⟩ = some (.int .u8 0) := (blk_cell C7.out 15).trans (brw_new 32 _ 15 (by rw [List.length_take]; omega) (by decide))
              have hf := blk_frozen C7.out 15
              go_wp2
              go_roundw
              case rel => exact ⟨16, by omega, by go_num, ⟨(blk_put C7.out 15 _ rfl).trans (congrArg some (by rw [out_step3 s2 15 s2.d rfl (by decide)]))⟩, ⟨blk_far C5.out (p := ⟨g7, 15, none⟩) N57.out _⟩, ⟨blk_far C2.out (p := ⟨g7, 15, none⟩) N27.out _⟩, ⟨below_set' E1.out G7.out⟩⟩
              case measure => simp [intOf]
            · have hx : wr.cell? ⟨g5, 4, none⟩ = some (.int .u32 (enc s2.e)) := (blk_cell C5.out 4).trans rfl
              have hz : wr.cell? ⟨g7, 16, none⟩ = some (.int .u8 0) := (blk_cell C7.out 16).trans (brw_new 32 _ 16 (by rw [List.length_take]; omega) (by decide))
              have hf := blk_frozen C7.out 16
              go_wp2
              go_roundw
              case rel => exact ⟨17, by omega, by go_num, ⟨(blk_put C7.out 16 _ rfl).trans (congrArg some (by rw [out_step s2 16 s2.e 0 16777216 rfl rfl (by decide)]))⟩, ⟨blk_far C5.out (p := ⟨g7, 16, none⟩) N57.out _⟩, ⟨blk_far C2.out (p := ⟨g7, 16, none⟩) N27.out _⟩, ⟨below_set' E1.out G7.out⟩⟩
              case measure => simp [intOf]
            · have hx : wr.cell? ⟨g5, 4, none⟩ = some (.int .u32 (enc s2.e)) := (blk_cell C5.out 4).trans rfl
              have hz : wr.cell? ⟨g7, 17, none⟩ = some (.int .u8 0) := (blk_cell C7.out 17).trans (brw_new 32 _ 17 (by rw [List.length_take]; omega) (by decide))
              have hf := blk_frozen C7.out 17
              go_wp2
              go_roundw
              case rel => exact ⟨18, by omega, by go_num, ⟨(blk_put C7.out 17 _ rfl).trans (congrArg some (by rw [out_step s2 17 s2.e 1 65536 rfl rfl (by decide)]))⟩, ⟨blk_far C5.out (p := ⟨g7, 17, none⟩) N57.out _⟩, ⟨blk_far C2.out (p := ⟨g7, 17, none⟩) N27.out _⟩, ⟨below_set' E1.out G7.out⟩⟩
              case measure => simp [intOf]
            · have hx : wr.cell? ⟨g5, 4, none⟩ = some (.int .u32 (enc s2.e)) := (blk_cell C5.out 4).trans rfl
              have hz : wr.cell? ⟨g7, 18, none⟩ = some (.int .u8 0) := (blk_cell C7.out 18).trans (brw_new 32 _ 18 (by rw [List.length_take]; omega) (by decide))
              have hf := blk_frozen C7.out 18
              go_wp2
              go_roundw
              case rel => exact ⟨19, by omega, by go_num, ⟨(blk_put C7.out 18 _ rfl).trans (congrArg some (by rw [out_step s2 18 s2.e 2 256 rfl rfl (by decide)]))⟩, ⟨blk_far C5.out (p := ⟨g7, 18, none⟩) N57.out _⟩, ⟨blk_far C2.out (p := ⟨g7, 18, none⟩) N27.out _⟩, ⟨below_set' E1.out G7.out⟩⟩
              case measure => simp [intOf]
            · have hx : wr.cell? ⟨g5, 4, none⟩ = some (.int .u32 (enc s2.e)) := (blk_cell C5.out 4).trans rfl
              have hz : wr.cell? ⟨g7, 19, none⟩ = some (.int .u8 0) := (blk_cell C7.out 19).trans (brw_new 32 _ 19 (by rw [List.length_take]; omega) (by decide))
              have hf := blk_frozen C7.out 19
              go_wp2
              go_roundw
              case rel => exact ⟨20, by omega, by go_num, ⟨(blk_put C7.out 19 _ rfl).trans (congrArg some (by rw [out_step3 s2 19 s2.e rfl (by decide)]))⟩, ⟨blk_far C5.out (p := ⟨g7, 19, none⟩) N57.out _⟩, ⟨blk_far C2.out (p := ⟨g7, 19, none⟩) N27.out _⟩, ⟨below_set' E1.out G7.out⟩⟩
              case measure => simp [intOf]
            · have hx : wr.cell? ⟨g5, 5, none⟩ = some (.int .u32 (enc s2.f)) := (blk_cell C5.out 5).trans rfl
              have hz : wr.cell? ⟨g7, 20, none⟩ = some (.int .u8 0) := (blk_cell C7.out 20).trans (brw_new 32 _ 20 (by rw [List.length_take]; omega) (by decide))
              have hf := blk_frozen C7.out 20
              go_wp2
              go_roundw
              case rel => exact ⟨21, by omega, by go_num, ⟨(blk_put C7.out 20 _ rfl).trans (congrArg some (by rw [out_step s2 20 s2.f 0 16777216 rfl rfl (by decide)]))⟩, ⟨blk_far C5.out (p := ⟨g7, 20, none⟩) N57.out _⟩, ⟨blk_far C2.out (p := ⟨g7, 20, none⟩) N27.out _⟩, ⟨below_set' E1.out G7.out⟩⟩
              case measure => simp [intOf]
            · have hx : wr.cell? ⟨g5, 5, none⟩ = some (.int .u32 (enc s2.f)) := (blk_cell C5.out 5).trans rfl
              have hz : wr.cell? ⟨g7, 21, none⟩ = some (.int .u8 0) := (blk_cell C7.out 21).trans (brw_new 32 _ 21 (by rw [List.length_take]; omega) (by decide))
              have hf := blk_frozen C7.out 21
              go_wp2
              go_roundw
              case rel => exact ⟨22, by omega, by go_num, ⟨(blk_put C7.out 21 _ rfl).trans (congrArg some (by rw [out_step s2 21 s2.f 1 65536 rfl rfl (by decide)]))⟩, ⟨blk_far C5.out (p := ⟨g7, 21, none⟩) N57.out _⟩, ⟨blk_far C2.out (p := ⟨g7, 21, none⟩) N27.out _⟩, ⟨below_set' E1.out G7.out⟩⟩
              case measure => simp [intOf]
            · have hx : wr.cell? ⟨g5, 5, none⟩ = some (.int .u32 (enc s2.f)) := (blk_cell C5.out 5).trans rfl
              have hz : wr.cell? ⟨g7, 22, none⟩ = some (.int .u8 0) := (blk_cell C7.out 22).trans (brw_new 32 _ 22 (by rw [List.length_take]; omega) (by decide))
              have hf := blk_frozen C7.out 22
              go_wp2
              go_roundw
              case rel => exact ⟨23, by omega, by go_num, ⟨(blk_put C7.out 22 _ rfl).trans (congrArg some (by rw [out_step s2 22 s2.f 2 256 rfl rfl (by decide)]))⟩, ⟨blk_far C5.out (p := ⟨g7, 22, none⟩) N57.out _⟩, ⟨blk_far C2.out (p := ⟨g7, 22, none⟩) N27.out _⟩, ⟨below_set' E1.out G7.out⟩⟩
              case measure => simp [intOf]
            · have hx : wr.cell? ⟨g5, 5, none⟩ = some (.int .u32 (enc s2.f)) := (blk_cell C5.out 5).trans rfl
              have hz : wr.cell? ⟨g7, 23, none⟩ = some (.int .u8 0) := (blk_cell C7.out 23).trans (brw_new 32 _ 23 (by rw [List.length_take]; omega) (by decide))
              have hf := blk_frozen C7.out 23
              go_wp2
              go_roundw
              case rel => exact ⟨24, by omega, by go_num, ⟨(blk_put C7.out 23 _ rfl).trans (congrArg some (by rw [out_step3 s2 23 s2.f rfl (by decide)]))⟩, ⟨blk_far C5.out (p := ⟨g7, 23, none⟩) N57.out _⟩, ⟨blk_far C2.out (p := ⟨g7, 23, none⟩) N27.out _⟩, ⟨below_set' E1.out G7.out⟩⟩
              case measure => simp [intOf]
            · have hx : wr.cell? ⟨g5, 6, none⟩ = some (.int .u32 (enc s2.g)) := (blk_cell C5.out 6).trans rfl
              have hz : wr.cell? ⟨g7, 24, none⟩ = some (.int .u8 0) := (blk_cell C7.out 24).trans (brw_new 32 _ 24 (by rw [List.length_take]; omega) (by decide))
              have hf := blk_frozen C7.out 24
              go_wp2
              go_roundw
              case rel => exact ⟨25, by omega, by go_num, ⟨(blk_put C7.out 24 _ rfl).trans (congrArg some (by rw [out_step s2 24 s2.g 0 16777216 rfl rfl (by decide)]))⟩, ⟨blk_far C5.out (p := ⟨g7, 24, none⟩) N57.out _⟩, ⟨blk_far C2.out (p := ⟨g7, 24, none⟩) N27.out _⟩, ⟨below_set' E1.out G7.out⟩⟩
              case measure => simp [intOf]
            · have hx : wr.cell? ⟨g5, 6, none⟩ = some (.int .u32 (enc s2.g)) := (blk_cell C5.out 6).trans rfl
              have hz : wr.cell? ⟨g7, 25, none⟩ = some (.int .u8 0) := (blk_cell C7.out 25).trans (brw_new 32 _ 25 (by rw [List.length_take]; omega) (by decide))
              have hf := blk_frozen C7.out 25
              go_wp2
              go_roundw
              case rel => exact ⟨26, by omega, by go_num, ⟨(blk_put C7.out 25 _ rfl).trans (congrArg some (by rw [out_step s2 25 s2.g 1 65536 rfl rfl (by decide)]))⟩, ⟨blk_far C5.out (p := ⟨g7, 25, none⟩) N57.out _⟩, ⟨blk_far C2.out (p := ⟨g7, 25, none⟩) N27.out _⟩, ⟨below_set' E1.out G7.out⟩⟩
              case measure => simp [intOf]
            · have hx : wr.cell? ⟨g5, 6, none⟩ = some (.int .u32 (enc s2.g)) := (blk_cell C5.out 6).trans rfl
              have hz : wr.cell? ⟨g7, 26, none⟩ = some (.int .u8 0) := (blk_cell C7.out 26).trans (brw_new 32 _ 26 (by rw [List.length_take]; omega) (by decide))
              have hf := blk_frozen C7.out 26
              go_wp2
              go_roundw
              case rel => exact ⟨27, by omega, by go_num, ⟨(blk_put C7.out 26 _ rfl).trans (congrArg some (by rw [out_step s2 26 s2.g 2 256 rfl rfl (by decide)]))⟩, ⟨blk_far C5.out (p := ⟨g7, 26, none⟩) N57.out _⟩, ⟨blk_far C2.out (p := ⟨g7, 26, none⟩) N27.out _⟩, ⟨below_set' E1.out G7.out⟩⟩
              case measure => simp [intOf]
            · have hx : wr.cell? ⟨g5, 6, none⟩ = some (.int .u32 (enc s2.g)) := (blk_cell C5.out 6).trans rfl
              have hz : wr.cell? ⟨g7, 27, none⟩ = some (.int .u8 0) := (blk_cell C7.out 27).trans (brw_new 32 _ 27 (by rw [List.length_take]; omega) (by decide))
              have hf := blk_frozen C7.out 27
              go_wp2
              go_roundw
              case rel => exact ⟨28, by omega, by go_num, ⟨(blk_put C7.out 27 _ rfl).trans (congrArg some (by rw [out_step3 s2 27 s2.g rfl (by decide)]))⟩, ⟨blk_far C5.out (p := ⟨g7, 27, none⟩) N57.out _⟩, ⟨blk_far C2.out (p := ⟨g7, 27, none⟩) N27.out _⟩, ⟨below_set' E1.out G7.out⟩⟩
              case measure => simp [intOf]
            · have hx : wr.cell? ⟨g5, 7, none⟩ = some (.int .u32 (enc s2.h)) := (blk_cell C5.out 7).trans rfl
              have hz : wr.cell? ⟨g7, 28, none⟩ = some (.int .u8 0) := (blk_cell C7.out 28).trans (brw_new 32 _ 28 (by rw [List.length_take]; omega) (by decide))
              have hf := blk_frozen C7.out 28
              go_wp2
              go_roundw
              case rel => exact ⟨29, by omega, by go_num, ⟨(blk_put C7.out 28 _ rfl).trans (congrArg some (by rw [out_step s2 28 s2.h 0 16777216 rfl rfl (by decide)]))⟩, ⟨blk_far C5.out (p := ⟨g7, 28, none⟩) N57.out _⟩, ⟨blk_far C2.out (p := ⟨g7, 28, none⟩) N27.out _⟩, ⟨below_set' E1.out G7.out⟩⟩
              case measure => simp [intOf]
            · have hx : wr.cell? ⟨g5, 7, none⟩ = some (.int .u32 (enc s2.h)) := (blk_cell C5.out 7).trans rfl
              have hz : wr.cell? ⟨g7, 29, none⟩ = some (.int .u8 0) := (blk_cell C7.out 29).trans (brw_new 32 _ 29 (by rw [List.length_take]; omega) (by decide))
              have hf := blk_frozen C7.out 29
              go_wp2
              go_roundw
              case rel => exact ⟨30, by omega, by go_num, ⟨(blk_put C7.out 29 _ rfl).trans (congrArg some (by rw [out_step s2 29 s2.h 1 65536 rfl rfl (by decide)]))⟩, ⟨blk_far C5.out (p := ⟨g7, 29, none⟩) N57.out _⟩, ⟨blk_far C2.out (p := ⟨g7, 29, none⟩) N27.out _⟩, ⟨below_set' E1.out G7.out⟩⟩
              case measure => simp [intOf]
            · have hx : wr.cell? ⟨g5, 7, none⟩ = some (.int .u32 (enc s2.h)) := (blk_cell C5.out 7).trans rfl
              have hz : wr.cell? ⟨g7, 30, none⟩ = some (.int .u8 0) := (blk_cell C7.out 30).trans (brw_new 32 _ 30 (by rw [List.length_take]; omega) (by decide))
              have hf := blk_frozen C7.out 30
              go_wp2
              go_roundw
              case rel => exact ⟨31, by omega, by go_num, ⟨(blk_put C7.out 30 _ rfl).trans (congrArg some (by rw [out_step s2 30 s2.h 2 256 rfl rfl (by decide)]))⟩, ⟨blk_far C5.out (p := ⟨g7, 30, none⟩) N57.out _⟩, ⟨blk_far C2.out (p := ⟨g7, 30, none⟩) N27.out _⟩, ⟨below_set' E1.out G7.out⟩⟩
              case measure => simp [intOf]
            · have hx : wr.cell? ⟨g5, 7, none⟩ = some (.int .u32 (enc s2.h)) := (blk_cell C5.out 7).trans rfl
              have hz : wr.cell? ⟨g7, 31, none⟩ = some (.int .u8 0) := (blk_cell C7.out 31).trans (brw_new 32 _ 31 (by rw [List.length_take]; omega) (by decide))
              have hf := blk_frozen C7.out 31
              go_wp2
              go_roundw
              case rel => exact ⟨32, by omega, by go_num, ⟨(blk_put C7.out 31 _ rfl).trans (congrArg some (by rw [out_step3 s2 31 s2.h rfl (by decide)]))⟩, ⟨blk_far C5.out (p := ⟨g7, 31, none⟩) N57.out _⟩, ⟨blk_far C2.out (p := ⟨g7, 31, none⟩) N27.out _⟩, ⟨below_set' E1.out G7.out⟩⟩
              case measure => simp [intOf]
            · have hb : brw 32 ((out8 s2).take 32) = ((out8 s2).map fun c => Value.int .u8 c.toNat).toArray := by rw [List.take_of_length_le (by omega)]; exact brw_full 32 _ hO
              have hs : (brw 32 ((out8 s2).take 32)).size = 32 := brw_size 32 _ (by rw [List.length_take]; omega)
              have i24 : (Try.prog.info? 23).map (·.size) = some 32 := by kernel_rfl
              go_wp2_with (first
                | ((with_reducible refine gate_dst (N := 63) rfl ?_); refine wpList_load_row rfl 23 (.tmp 7) rfl g7 rfl 23 (brw 32 ((out8 s2).take 32)) (0, 0) _ C7.out Try.underlying23 rfl (by rw [hs]; exact i24) ?_)
                | ((with_reducible refine gate_store rfl ?_); refine wpList_store_row rfl 23 (.tmp 2) (.tmp 63) rfl w.heap.size (brw 32 ((out8 s2).take 32)) rfl rfl 23 _ C2.out (by rw [hs]; exact i24) rfl (brw_one _ _) ?_))
              refine bodyPost_ret (results_cell_row (fn := Try.f30) rfl _ _ w.heap.size 23 (brw 32 ((out8 s2).take 32)) (0, 0) _ rfl (setRow_heap _ w.heap.size _ _ 23 _ C2.out) Try.underlying23 rfl (by rw [hs]; exact i24)) rfl ?_
              refine ⟨?_, below_setRow (below_then D0.out (Nat.le_of_lt S1.out) E1.out) (Nat.le_refl _) _⟩
              rw [hb, ← HM.out, HB2.out]
end Go.Proofs.Ythpnppfpmhlkaaa.Sha
