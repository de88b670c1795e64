/- Chapter 3: MerklePaths, walked. -/
import Derived.Test.YthpnppfpmhlkaaaMkLS
import Derived.Test.YthpnppfpmhlkaaaMkI
import Derived.Test.YthpnppfpmhlkaaaMkK
/- Chapter 3: MerkleSplits, walked. -/
namespace Go.Proofs.Ythpnppfpmhlkaaa.Sha
open Go.RowKit Go.Proofs.Ythpnppfpmhlkaaa.X Go.Proofs.YthpnppfpmhlkaaaW.PrintWords Go.Proofs.YthpnppfpmhlkaaaW.PrintLast Go.Proofs.YthpnppfpmhlkaaaW.PrintMore
set_option linter.unusedVariables false
set_option linter.unusedSimpArgs false

theorem append_nil_nil31 (c : Nat) (W : World) : (Builtin.append_ #[31, 31] 31 #[.slice none 0 0, .slice none 0 c]).run Try.prog W = .ok (.slice none 0 0) W := by
  obtain ⟨i0, hi, _⟩ := Option.map_eq_some_iff.1 info23
  simp [Builtin.append_, run_underlying Try.underlying31, sizeOf, typeInfo, hi, Builtin.lenOf, Builtin.firstCells, loadCells, loadCellsFrom]
/-- A copy of a row of hashes. -/
theorem copy_hrows (A : Option Addr) (c : Nat) (rows : List (List UInt8)) (W : World) (h : HRead A rows W) (hl : rows.length ≤ 1099511627776) :
    ∃ v' W', (Builtin.append_ #[31, 31] 31 #[.slice none 0 0, .slice A rows.length c]).run Try.prog W = .ok v' W' ∧ HRow W.heap.size v' rows W' ∧ Below W.heap.size W W' := by
  cases A with
  | none =>
    have h0 : rows.length = 0 := by
      by_cases h1 : 0 < rows.length
      · obtain ⟨_, e, _⟩ := h.2 h1
        cases e
      · omega
    rw [h0]
    refine ⟨_, _, append_nil_nil31 c W, ?_, Below.refl _ _⟩
    rw [List.eq_nil_of_length_eq_zero h0]; exact hrow_nil _ _
  | some ad =>
    obtain ⟨v', W', h1, h2, h3, _⟩ := append_hrows W.heap.size (.slice none 0 0) [] rows W W ad c (hrow_nil _ _) (Below.refl _ _) (Nat.le_refl _) h (by simp; omega)
    exact ⟨v', W', h1, h2, h3⟩
set_option maxHeartbeats 8000000 in
set_option maxRecDepth 100000 in
theorem paths_walk (A : Option Addr) (cp : Nat) (xs : List ByteArray) (i : Int) (root : List UInt8) (n : Int) (s : ByteArray) (P : Option Addr) (cq : Nat) (ps : List (List UInt8)) (w : World) (hr : Kd.C Kd.string w A xs.length xs) (hcp : xs.length ≤ cp) (hn : xs.length ≤ 1048576) (hsz : ∀ s ∈ xs, s.size ≤ 140737488355000)
    (hroot : root.length = 32) (hn2 : n ≤ 9223372036854775807) (hs : s.size ≤ 140737488355000) (hpc : ps.length ≤ cq) (hpl : ps.length ≤ 1048576) (hp : HRead P ps w) :
    Calls Try.prog 4 #[.slice A xs.length cp, .int .i64 i, .agg (brw 32 root), .int .i64 n, .string s, .slice P ps.length cq] w fun e w' => e = .returned (.bool true) ∧ Below w.heap.size w w' := by
  have i23 : (Try.prog.info? 23).map (·.size) = some 32 := by kernel_rfl
  have hzr : (brw 32 root).size = 32 := brw_size 32 root (by omega)
  have hPL : (pathF xs i).length ≤ 20 := by
    unfold pathF
    split
    · exact pth_short 20 _ _ (by rw [tl_len]; omega)
    · exact Nat.zero_le _
  have HSZ := Aside0.mk hsz
  have hq := below_alloc (Below.refl w.heap.size w) (.cells (brw 32 root) 23)
  have CR : Aside0 ((w.alloc (.cells (brw 32 root) 23)).heap[w.heap.size]? = some (.cells (brw 32 root) 23 (0, 0))) := ⟨blk_new _ _⟩
  have HR := Aside0.mk (Kd.C_below hr hq)
  have HP := Aside0.mk (hread_below hp hq)
  have D0 := Aside0.mk hq
  clear hr hp hq hsz
  go_enter Try.func4, Try.ntmps4
  go_upto_region 1 with (fail)
  change Code.wp _ _ _ _ (w.alloc (.cells (brw 32 root) 23))
  generalize w.alloc (.cells (brw 32 root) 23) = w1 at CR D0 HR HP ⊢
  go_wp2_with (first
    | (go_at_call 8; (with_reducible refine (lent_calls A cp xs _ HR.out hcp (by omega)).mono ?_); rintro e w2 ⟨g, c, rfl, hg, hl, hcm, hb⟩; have n_D0 := Aside0.mk (below_then D0.out D0.out.size hb); have n_CR := Aside0.mk (blk_below CR.out hb); have n_HR := Aside0.mk (Kd.C_below HR.out hb); have n_HP := Aside0.mk (hread_below HP.out hb); clear D0 CR HR HP; have D0 := n_D0; have CR := n_CR; have HR := n_HR; have HP := n_HP; clear n_D0 n_CR n_HR n_HP; have HL := Aside0.mk hl; clear hb hl hg hcm)
    | (go_at_call 17; (with_reducible refine (path_calls (some ⟨g, 0, none⟩) c xs i _ (lrow_read HL.out (by omega)) (lrow_cap HL.out) hn HSZ.out).mono ?_); rintro e w3 ⟨v1, rfl, hh, hb⟩; have n_D0 := Aside0.mk (below_then D0.out D0.out.size hb); have n_CR := Aside0.mk (blk_below CR.out hb); have n_HR := Aside0.mk (Kd.C_below HR.out hb); have n_HP := Aside0.mk (hread_below HP.out hb); have n_HL := Aside0.mk (lrow_below HL.out hb); clear D0 CR HR HP HL; have D0 := n_D0; have CR := n_CR; have HR := n_HR; have HP := n_HP; have HL := n_HL; clear n_D0 n_CR n_HR n_HP n_HL; obtain ⟨A1, c1, rfl, hc1, h1⟩ := hrow_read hh; have H1 := Aside0.mk h1; clear hb hh h1 hc1)
    | (go_at_call 18; (with_reducible refine (rpath_calls A cp xs i _ HR.out hcp hn HSZ.out).mono ?_); rintro e w4 ⟨v2, rfl, hh, hb⟩; have n_D0 := Aside0.mk (below_then D0.out D0.out.size hb); have n_CR := Aside0.mk (blk_below CR.out hb); have n_HR := Aside0.mk (Kd.C_below HR.out hb); have n_HP := Aside0.mk (hread_below HP.out hb); have n_HL := Aside0.mk (lrow_below HL.out hb); have n_H1 := Aside0.mk (hread_below H1.out hb); clear D0 CR HR HP HL H1; have D0 := n_D0; have CR := n_CR; have HR := n_HR; have HP := n_HP; have HL := n_HL; have H1 := n_H1; clear n_D0 n_CR n_HR n_HP n_HL n_H1; obtain ⟨A2, c2, rfl, hc2, h2⟩ := hrow_read hh; have H2 := Aside0.mk h2; clear hb hh h2 hc2)
    | ((with_reducible refine gate_dst (N := 35) rfl ?_); obtain ⟨v3, w5, hr1, hr2, hb⟩ := copy_hrows P cq ps w4 HP.out (by omega); refine Kd.event_run rfl (exec_append31 (.tmp 33) (.tmp 34) rfl rfl _ _ rfl rfl hr1) ?_; have n_D0 := Aside0.mk (below_then D0.out D0.out.size hb); have n_CR := Aside0.mk (blk_below CR.out hb); have n_HR := Aside0.mk (Kd.C_below HR.out hb); have n_HP := Aside0.mk (hread_below HP.out hb); have n_HL := Aside0.mk (lrow_below HL.out hb); have n_H1 := Aside0.mk (hread_below H1.out hb); have n_H2 := Aside0.mk (hread_below H2.out hb); clear D0 CR HR HP HL H1 H2; have D0 := n_D0; have CR := n_CR; have HR := n_HR; have HP := n_HP; have HL := n_HL; have H1 := n_H1; have H2 := n_H2; clear n_D0 n_CR n_HR n_HP n_HL n_H1 n_H2; obtain ⟨A3, c3, rfl, hc3, h3⟩ := hrow_read hr2; have H3 := Aside0.mk h3; clear hb hr1 hr2 h3)
    | ((with_reducible refine gate_dst (N := 36) rfl ?_); refine wpList_load_row rfl 23 (.tmp 8) rfl w.heap.size rfl 23 (brw 32 root) (0, 0) _ CR.out Try.underlying23 rfl (by rw [hzr]; exact i23) ?_)
    | ((with_reducible refine gate_dst (N := 42) rfl ?_); refine wpList_load_row rfl 23 (.tmp 8) rfl w.heap.size rfl 23 (brw 32 root) (0, 0) _ CR.out Try.underlying23 rfl (by rw [hzr]; exact i23) ?_)
    | (go_at_call 19; (with_reducible refine (holds_calls root hroot n i hn2 s hs A3 c3 ps _ hc3 H3.out).mono ?_); rintro e w6 ⟨rfl, hb⟩; have n_D0 := Aside0.mk (below_then D0.out D0.out.size hb); have n_CR := Aside0.mk (blk_below CR.out hb); have n_HR := Aside0.mk (Kd.C_below HR.out hb); have n_HP := Aside0.mk (hread_below HP.out hb); have n_HL := Aside0.mk (lrow_below HL.out hb); have n_H1 := Aside0.mk (hread_below H1.out hb); have n_H2 := Aside0.mk (hread_below H2.out hb); have n_H3 := Aside0.mk (hread_below H3.out hb); clear D0 CR HR HP HL H1 H2 H3; have D0 := n_D0; have CR := n_CR; have HR := n_HR; have HP := n_HP; have HL := n_HL; have H1 := n_H1; have H2 := n_H2; have H3 := n_H3; clear n_D0 n_CR n_HR n_HP n_HL n_H1 n_H2 n_H3; clear hb)
    | (go_at_call 20; (with_reducible refine (rholds_calls root hroot n i hn2 s hs P cq ps _ hpc (by omega) HP.out).mono ?_); rintro e w7 ⟨rfl, hb⟩; have n_D0 := Aside0.mk (below_then D0.out D0.out.size hb); have n_CR := Aside0.mk (blk_below CR.out hb); have n_HR := Aside0.mk (Kd.C_below HR.out hb); have n_HP := Aside0.mk (hread_below HP.out hb); have n_HL := Aside0.mk (lrow_below HL.out hb); have n_H1 := Aside0.mk (hread_below H1.out hb); have n_H2 := Aside0.mk (hread_below H2.out hb); have n_H3 := Aside0.mk (hread_below H3.out hb); clear D0 CR HR HP HL H1 H2 H3; have D0 := n_D0; have CR := n_CR; have HR := n_HR; have HP := n_HP; have HL := n_HL; have H1 := n_H1; have H2 := n_H2; have H3 := n_H3; clear n_D0 n_CR n_HR n_HP n_HL n_H1 n_H2 n_H3; clear hb)
    | (go_at_call 21; (with_reducible refine (same_calls A1 A2 c1 c2 (pathF xs i) _ H1.out H2.out (by omega)).mono ?_); rintro e w8 ⟨rfl, hb⟩; have n_D0 := Aside0.mk (below_then D0.out D0.out.size hb); have n_CR := Aside0.mk (blk_below CR.out hb); have n_HR := Aside0.mk (Kd.C_below HR.out hb); have n_HP := Aside0.mk (hread_below HP.out hb); have n_HL := Aside0.mk (lrow_below HL.out hb); have n_H1 := Aside0.mk (hread_below H1.out hb); have n_H2 := Aside0.mk (hread_below H2.out hb); have n_H3 := Aside0.mk (hread_below H3.out hb); clear D0 CR HR HP HL H1 H2 H3; have D0 := n_D0; have CR := n_CR; have HR := n_HR; have HP := n_HP; have HL := n_HL; have H1 := n_H1; have H2 := n_H2; have H3 := n_H3; clear n_D0 n_CR n_HR n_HP n_HL n_H1 n_H2 n_H3; clear hb)
    | (go_at_call 21; (with_reducible refine (same_calls A3 P c3 cq ps _ H3.out HP.out (by omega)).mono ?_); rintro e w9 ⟨rfl, hb⟩; have n_D0 := Aside0.mk (below_then D0.out D0.out.size hb); have n_CR := Aside0.mk (blk_below CR.out hb); have n_HR := Aside0.mk (Kd.C_below HR.out hb); have n_HP := Aside0.mk (hread_below HP.out hb); have n_HL := Aside0.mk (lrow_below HL.out hb); have n_H1 := Aside0.mk (hread_below H1.out hb); have n_H2 := Aside0.mk (hread_below H2.out hb); have n_H3 := Aside0.mk (hread_below H3.out hb); clear D0 CR HR HP HL H1 H2 H3; have D0 := n_D0; have CR := n_CR; have HR := n_HR; have HP := n_HP; have HL := n_HL; have H1 := n_H1; have H2 := n_H2; have H3 := n_H3; clear n_D0 n_CR n_HR n_HP n_HL n_H1 n_H2 n_H3; clear hb)
    | (go_at_call 16; (with_reducible refine (first_calls _).mono ?_); rintro e w10 ⟨rfl, hb⟩; have n_D0 := Aside0.mk (below_then D0.out D0.out.size hb); have n_CR := Aside0.mk (blk_below CR.out hb); have n_HR := Aside0.mk (Kd.C_below HR.out hb); have n_HP := Aside0.mk (hread_below HP.out hb); have n_HL := Aside0.mk (lrow_below HL.out hb); have n_H1 := Aside0.mk (hread_below H1.out hb); have n_H2 := Aside0.mk (hread_below H2.out hb); have n_H3 := Aside0.mk (hread_below H3.out hb); clear D0 CR HR HP HL H1 H2 H3; have D0 := n_D0; have CR := n_CR; have HR := n_HR; have HP := n_HP; have HL := n_HL; have H1 := n_H1; have H2 := n_H2; have H3 := n_H3; clear n_D0 n_CR n_HR n_HP n_HL n_H1 n_H2 n_H3; clear hb))
  go_ret
  exact ⟨rfl, D0.out⟩
end Go.Proofs.Ythpnppfpmhlkaaa.Sha
namespace Go.Proofs.Ythpnppfpmhlkaaa.Sha
open Go.RowKit Go.Proofs.Ythpnppfpmhlkaaa.X Go.Proofs.YthpnppfpmhlkaaaW.PrintWords Go.Proofs.YthpnppfpmhlkaaaW.PrintLast Go.Proofs.YthpnppfpmhlkaaaW.PrintMore
set_option linter.unusedVariables false
set_option linter.unusedSimpArgs false

def msA.T2 : Bool × List (List Nat × List Nat) := (true, [([], []), ([], []), ([1], [1]), ([0, 2], [0, 2]), ([3, 2], [3]), ([4, 4], [4]), ([5, 4], [4, 5]), ([4, 6], [4, 6])])
def msA.B2 : List Nat := [0, 0, 2, 7, 15, 31, 63, 127]
theorem msA.tab2 : rtab .any (opsOf Try.f6 2) = msA.T2 := by kernel_rfl
theorem msA.bits2 : waitsOk msA.T2.2 msA.B2 = true := by kernel_rfl
def msB.T5 : Bool × List (List Nat × List Nat) := (true, [([], []), ([0], [0]), ([1], [1]), ([2], [2]), ([3], [3]), ([4, 3, 3], [3, 4]), ([3], [3]), ([6, 3], [3, 6]), ([7, 3], [3, 7]), ([8, 5, 3], [3, 8]), ([5, 9, 3], [3, 5, 9]), ([3, 10], [3, 10]), ([11, 9, 0, 1, 2, 3, 4, 5, 6, 7, 8, 9, 10, 11], [11])])
def msB.B5 : List Nat := [0, 1, 3, 7, 15, 31, 15, 79, 207, 511, 1023, 2047, 4095]
theorem msB.tab5 : rtab .any (opsOf Try.f6 5) = msB.T5 := by kernel_rfl
theorem msB.bits5 : waitsOk msB.T5.2 msB.B5 = true := by kernel_rfl
def msC.T5 : Bool × List (List Nat × List Nat) := (true, [([], []), ([0], [0]), ([1], [1]), ([2], [2]), ([3], [3]), ([4, 3, 3], [3, 4]), ([3], [3]), ([6, 3], [3, 6]), ([7, 3], [3, 7]), ([8, 5, 3], [3, 8]), ([5, 9, 3], [3, 5, 9]), ([3, 10], [3, 10]), ([11, 9, 0, 1, 2, 3, 4, 5, 6, 7, 8, 9, 10, 11], [11])])
def msC.B5 : List Nat := [0, 1, 3, 7, 15, 31, 15, 79, 207, 511, 1023, 2047, 4095]
theorem msC.tab5 : rtab .any (opsOf Try.f6 5) = msC.T5 := by kernel_rfl
theorem msC.bits5 : waitsOk msC.T5.2 msC.B5 = true := by kernel_rfl
def msD.T9 : Bool × List (List Nat × List Nat) := (true, [([], []), ([0], [0]), ([], []), ([], []), ([2, 3], [2, 3]), ([4, 1], [4]), ([], []), ([], []), ([6, 7], [6, 7]), ([8, 5], [8]), ([5, 9, 9], [5, 9]), ([1, 10], [1, 10])])
def msD.B9 : List Nat := [0, 1, 0, 0, 12, 31, 0, 0, 192, 511, 1023, 2047]
theorem msD.tab9 : rtab .any (opsOf Try.f6 9) = msD.T9 := by kernel_rfl
theorem msD.bits9 : waitsOk msD.T9.2 msD.B9 = true := by kernel_rfl
def msE.T14 : Bool × List (List Nat × List Nat) := (true, [([], []), ([0], [0]), ([], []), ([], []), ([2, 3], [2, 3]), ([4, 1], [4]), ([], []), ([5, 6, 5], [5, 6]), ([1, 7], [1, 7]), ([8, 7, 0, 1, 2, 3, 4, 5, 6, 7, 8], [8])])
def msE.B14 : List Nat := [0, 1, 0, 0, 12, 31, 0, 127, 255, 511]
theorem msE.tab14 : rtab .any (opsOf Try.f6 14) = msE.T14 := by kernel_rfl
theorem msE.bits14 : waitsOk msE.T14.2 msE.B14 = true := by kernel_rfl
theorem srow_read {base : Nat} {v : Value} {xs : List ByteArray} {W : World} (h : SRow base v xs W) (hl : xs.length ≤ 9223372036854775807) : ∃ A c, v = .slice A xs.length c ∧ xs.length ≤ c ∧ Kd.C Kd.string W A xs.length xs := by
  obtain ⟨h0, ⟨rfl, h1⟩ | ⟨g, cap, cur, rfl, h2, h3, h4, h5, h6, h7⟩⟩ := h
  · exact ⟨none, 0, by rw [h1], by omega, rfl, hl, fun h => by omega⟩
  · refine ⟨_, cap, rfl, h4, texts_block xs hl h3 fun j hj => ?_⟩
    rw [Nat.mul_one] at h7
    have e : cur[j]? = (xs.map Value.string)[j]? := by rw [← h7, List.getElem?_take_of_lt hj, Array.getElem?_toList]
    rw [e, List.getElem?_map, List.getElem?_eq_getElem hj, List.getD_eq_getElem?_getD, List.getElem?_eq_getElem hj]; rfl
theorem C_take {W : World} {A : Option Addr} {n : Nat} {xs : List ByteArray} (h : Kd.C Kd.string W A n xs) (k : Nat) (hk : k ≤ n) : Kd.C Kd.string W A k (xs.take k) := by
  obtain ⟨h1, h2, h3⟩ := h
  refine ⟨by rw [List.length_take]; omega, by omega, fun h0 => ?_⟩
  obtain ⟨ad, e, h4⟩ := h3 (by omega)
  refine ⟨ad, e, fun j p hj => h4 j p ?_⟩
  rw [List.getElem?_take] at hj
  split at hj
  · exact hj
  · cases hj
theorem C_drop {W : World} {ad : Addr} {n : Nat} {xs : List ByteArray} (h : Kd.C Kd.string W (some ad) n xs) (k : Nat) (hk : k < n) : Kd.C Kd.string W (some (ad.add k)) (n - k) (xs.drop k) := by
  obtain ⟨h1, h2, h3⟩ := h
  refine ⟨by rw [List.length_drop]; omega, by omega, fun h0 => ?_⟩
  obtain ⟨ad', e, h4⟩ := h3 (by omega)
  injection e with e
  subst e
  refine ⟨_, rfl, fun j p hj => ?_⟩
  rw [List.getElem?_drop] at hj
  obtain ⟨c, hc, hp, hcell⟩ := h4 _ p hj
  refine ⟨c, hc, hp, fun i u hi => ?_⟩
  have := hcell i u hi
  rw [Addr.add_add]
  have e2 : k + (j * Kd.string.sz + i) = (k + j) * Kd.string.sz + i := by
    show k + (j * 1 + i) = (k + j) * 1 + i
    omega
  rw [e2]; exact this
set_option maxHeartbeats 8000000 in
set_option maxRecDepth 100000 in
theorem splits_walk (A : Option Addr) (cp : Nat) (xs : List ByteArray) (s : ByteArray) (w : World) (hr : Kd.C Kd.string w A xs.length xs) (hcp : xs.length ≤ cp) (hn : xs.length ≤ 1048576) (hsz : ∀ s ∈ xs, s.size ≤ 140737488355000) (hs : s.size ≤ 140737488355000) :
    Calls Try.prog 6 #[.slice A xs.length cp, .string s] w fun e w' => e = .returned (.bool true) ∧ Below w.heap.size w w' := by
  have i23 : (Try.prog.info? 23).map (·.size) = some 32 := by kernel_rfl
  obtain ⟨Lt, hLt⟩ : ∃ R, R = leafF s.data.toList := ⟨_, rfl⟩
  have hLtl : Lt.length = 32 := by rw [hLt]; exact leafF_len _
  have HLT : ∀ W : World, Calls Try.prog 12 #[.string s] W fun e w' => e = .returned (.agg (brw 32 Lt)) ∧ Below W.heap.size W w' := fun W => by rw [hLt]; exact leaf_agg s hs W
  have HS1 : ∀ W : World, Calls Try.prog 9 #[.slice (some ⟨W.heap.size, 0, none⟩) 1 1] (W.alloc (.cells #[.string s] 9)) fun e w' => e = .returned (.agg (brw 32 Lt)) ∧ Below W.heap.size W w' := fun W => by
    rw [hLt, ← root_one]
    refine (root_agg (some ⟨W.heap.size, 0, none⟩) 1 [s] (W.alloc (.cells #[.string s] 9)) (texts_block [s] (by show 1 ≤ _; decide) (blk_new _ _) (fun j hj => ?_)) (Nat.le_refl _) (by show 1 ≤ _; decide) (fun s' hs' => ?_)).mono ?_
    · match j, hj with
      | 0, _ => rfl
    · rw [List.mem_singleton.1 hs']; exact hs
    · rintro e w' ⟨rfl, hb⟩
      exact ⟨rfl, below_then (below_alloc (Below.refl _ _) _) (below_alloc (Below.refl _ _) _).size hb⟩
  have heq0 := eq32 Lt Lt hLtl hLtl
  rw [decide_eq_true rfl, B32_brw Lt hLtl] at heq0
  have HR0 := Aside0.mk hr
  have HSZ := Aside0.mk hsz
  have HLE := Aside0.mk hLt
  clear hr hsz hLt
  go_enter Try.func6, Try.ntmps6
  go_upto_region 2 with (first
    | (go_at_call 9; (refine (HS1 w).mono ?_); rintro e w2 ⟨rfl, hb⟩; have D0 := Aside0.mk hb; have HR := Aside0.mk (Kd.C_below HR0.out hb); clear HR0 hb)
    | ((with_reducible refine gate_store rfl ?_); refine wpList_put_new rfl (.tmp 5) (.tmp 10) rfl Lt hLtl rfl rfl (fun w3 hc hb => ?_); have C5 := Aside0.mk hc; have n_D0 := Aside0.mk (below_then D0.out D0.out.size hb); have n_HR := Aside0.mk (Kd.C_below HR.out hb); clear hb hc D0 HR; have D0 := n_D0; have HR := n_HR; clear n_D0 n_HR))
  refine start_ (n := 8) (S := fun W => Below w3.heap.size w3 W) (ds := []) #[false, false, false, false, false, false, false, false] (by kernel_rfl) rfl rfl (below_drew1 (Below.refl _ _)) (fun hHeld => ?_); refine with_tabW msA.tab2 msA.bits2 (fun HT_ HW_ => ?_)
  generalize World.drew _ = wR at hHeld ⊢
  refine take_ (i := 0) (N := some 11) (v := ?_) (a' := ?_) #[true, false, false, false, false, false, false, false] rfl rfl (take_ofW HT_.out HW_.out (by kernel_rfl)) (fun _ _ _ h => h) (Or.inl ⟨by rfl, ?_⟩) hHeld ?_ ?_
  rotate_left
  · rintro w' s0
    refine exec_load_row 23 (.tmp 5) ?_ w2.heap.size ?_ 23 (brw 32 Lt) (0, 0) _ (blk_below C5.out s0) Try.underlying23 ?_ (by rw [brw_size 32 Lt (by omega)]; exact i23) <;> rfl
  rotate_left
  · simp only [Act.put, List.setIfInBounds_toArray, List.set_cons_zero, List.set_cons_succ, i64_w, i32_w]
    rfl
  refine pure_ (i := 1) (N := some 12) (v := ?_) (a' := ?_) #[true, true, false, false, false, false, false, false] rfl rfl (any_of HT_.out (by kernel_rfl)) (fun _ _ _ h => h) (Or.inl ⟨by rfl, ?_⟩) ?_ ?_
  rotate_left
  · intro w'
    go_simp
    with_reducible rfl
  rotate_left
  · simp only [Act.put, List.setIfInBounds_toArray, List.set_cons_zero, List.set_cons_succ, i64_w, i32_w]
    rfl
  refine one_ (i := 2) (N := some 13) #[true, true, true, false, false, false, false, false] rfl rfl (one_of HT_.out (by kernel_rfl)) (by decide) (fun K hK => ?_)
  refine goes_ Try.func12 (by kernel_rfl) rfl #[.string s] (by rfl) rfl rfl (by (try simp only [List.map_toArray, List.map_cons, List.map_nil]); first | done | rfl) ?_
  with_reducible refine (HLT _).mono ?_
  rintro e w_2 ⟨rfl, hb⟩
  refine ⟨_, rfl, ?_⟩
  have hb2 := below_then hHeld hHeld.size hb
  refine hK.out _ _ hb2 (fun hHeld => ?_)
  clear hK K
  refine norm_ (a' := ?_) ?_ ?_
  rotate_left
  · show Act.put _ (some 13) _ = _
    simp only [Act.put, List.setIfInBounds_toArray, List.set_cons_zero, List.set_cons_succ, i64_w, i32_w]
    rfl
  clear hb2 hb
  refine pure_ (i := 3) (N := some 14) (v := ?_) (a' := ?_) #[true, true, true, true, false, false, false, false] rfl rfl (any_of HT_.out (by kernel_rfl)) (fun _ _ _ h => h) (Or.inl ⟨by rfl, ?_⟩) ?_ ?_
  rotate_left
  · intro w'
    go_simp
    with_reducible rfl
  rotate_left
  · simp only [Act.put, List.setIfInBounds_toArray, List.set_cons_zero, List.set_cons_succ, i64_w, i32_w]
    rfl
  refine pure_ (i := 4) (N := some 15) (v := ?_) (a' := ?_) #[true, true, true, true, true, false, false, false] rfl rfl (any_of HT_.out (by kernel_rfl)) (fun _ _ _ h => h) (Or.inl ⟨by rfl, ?_⟩) ?_ ?_
  rotate_left
  · intro w'
    go_simp
    with_reducible rfl
  rotate_left
  · simp only [Act.put, List.setIfInBounds_toArray, List.set_cons_zero, List.set_cons_succ, i64_w, i32_w]
    rfl
  refine one_ (i := 5) (N := some 16) #[true, true, true, true, true, true, false, false] rfl rfl (one_of HT_.out (by kernel_rfl)) (by decide) (fun K hK => ?_)
  refine goes_ Try.func16 (by kernel_rfl) rfl #[] (by rfl) rfl rfl (by (try simp only [List.map_toArray, List.map_cons, List.map_nil]); first | done | rfl) ?_
  with_reducible refine (first_calls _).mono ?_
  rintro e w_2 ⟨rfl, hb⟩
  refine ⟨_, rfl, ?_⟩
  have hb2 := below_then hHeld hHeld.size hb
  refine hK.out _ _ hb2 (fun hHeld => ?_)
  clear hK K
  refine norm_ (a' := ?_) ?_ ?_
  rotate_left
  · show Act.put _ (some 16) _ = _
    simp only [Act.put, List.setIfInBounds_toArray, List.set_cons_zero, List.set_cons_succ, i64_w, i32_w]
    rfl
  clear hb2 hb
  refine pure_ (i := 6) (N := some 17) (v := ?_) (a' := ?_) #[true, true, true, true, true, true, true, false] rfl rfl (any_of HT_.out (by kernel_rfl)) (fun _ _ _ h => h) (Or.inl ⟨by rfl, ?_⟩) ?_ ?_
  rotate_left
  · intro w'
    go_simp
    with_reducible rfl
  rotate_left
  · simp only [Act.put, List.setIfInBounds_toArray, List.set_cons_zero, List.set_cons_succ, i64_w, i32_w]
    rfl
  refine pure_ (i := 7) (N := some 18) (v := ?_) (a' := ?_) #[true, true, true, true, true, true, true, true] rfl rfl (any_of HT_.out (by kernel_rfl)) (fun _ _ _ h => h) (Or.inl ⟨by rfl, ?_⟩) ?_ ?_
  rotate_left
  · intro w'
    go_simp
    with_reducible rfl
  rotate_left
  · simp only [Act.put, List.setIfInBounds_toArray, List.set_cons_zero, List.set_cons_succ, i64_w, i32_w]
    rfl
  refine done_ (done_of HT_.out (by kernel_rfl)) ?_
  have n_D0 := Aside0.mk (below_then D0.out D0.out.size hHeld)
  have n_C5 := Aside0.mk (blk_below C5.out hHeld)
  have n_HR := Aside0.mk (Kd.C_below HR.out hHeld)
  clear D0 C5 HR
  have D0 := n_D0
  have C5 := n_C5
  have HR := n_HR
  clear n_D0 n_C5 n_HR
  by_cases h2 : xs.length < 2
  · have q1 : ((xs.length : Int) < 2) = True := eq_true (by omega)
    by_cases h0 : xs.length = 0
    · have q2 : ((xs.length : Int) = 0) = True := eq_true (by omega)
      have q3 : ((xs.length : Int) == 0) = true := by rw [h0]; rfl
      go_upto_region 5 with (fail)
      refine start_ (n := 13) (S := fun W => Below w_2.heap.size w_2 W) (ds := []) #[false, false, false, false, false, false, false, false, false, false, false, false, false] (by kernel_rfl) rfl rfl (below_drew1 (Below.refl _ _)) (fun hHeld => ?_); refine with_tabW msB.tab5 msB.bits5 (fun HT_ HW_ => ?_)
      generalize World.drew _ = wR at hHeld ⊢
      refine pure_ (i := 0) (N := some 22) (v := ?_) (a' := ?_) #[true, false, false, false, false, false, false, false, false, false, false, false, false] rfl rfl (any_of HT_.out (by kernel_rfl)) (fun _ _ _ h => h) (Or.inl ⟨by rfl, ?_⟩) ?_ ?_
      rotate_left
      · intro w'
        go_simp
        with_reducible rfl
      rotate_left
      · simp only [Act.put, List.setIfInBounds_toArray, List.set_cons_zero, List.set_cons_succ, i64_w, i32_w]
        rfl
      refine pure_ (i := 1) (N := some 23) (v := ?_) (a' := ?_) #[true, true, false, false, false, false, false, false, false, false, false, false, false] rfl rfl (any_of HT_.out (by kernel_rfl)) (fun _ _ _ h => h) (Or.inl ⟨by rfl, ?_⟩) ?_ ?_
      rotate_left
      · intro w'
        go_simp
        with_reducible rfl
      rotate_left
      · simp only [Act.put, List.setIfInBounds_toArray, List.set_cons_zero, List.set_cons_succ, i64_w, i32_w]
        rfl
      refine pure_ (i := 2) (N := some 24) (v := ?_) (a' := ?_) #[true, true, true, false, false, false, false, false, false, false, false, false, false] rfl rfl (any_of HT_.out (by kernel_rfl)) (fun _ _ _ h => h) (Or.inl ⟨by rfl, ?_⟩) ?_ ?_
      rotate_left
      · intro w'
        go_simp
        with_reducible rfl
      rotate_left
      · simp only [Act.put, List.setIfInBounds_toArray, List.set_cons_zero, List.set_cons_succ, i64_w, i32_w]
        rfl
      refine pure_ (i := 3) (N := some 25) (v := ?_) (a' := ?_) #[true, true, true, true, false, false, false, false, false, false, false, false, false] rfl rfl (any_of HT_.out (by kernel_rfl)) (fun _ _ _ h => h) (Or.inl ⟨by rfl, ?_⟩) ?_ ?_
      rotate_left
      · intro w'
        go_simp
        with_reducible rfl
      rotate_left
      · simp only [Act.put, List.setIfInBounds_toArray, List.set_cons_zero, List.set_cons_succ, i64_w, i32_w]
        rfl
      refine pure_ (i := 4) (N := some 26) (v := undef) (a' := ?_) #[true, true, true, true, true, false, false, false, false, false, false, false, false] rfl rfl (any_of HT_.out (by kernel_rfl)) (fun _ _ _ h => h) (Or.inr ⟨by rfl, rfl⟩) ?_ ?_
      rotate_left
      · simp only [Act.put, List.setIfInBounds_toArray, List.set_cons_zero, List.set_cons_succ, i64_w, i32_w]
        rfl
      refine pure_ (i := 5) (N := some 27) (v := undef) (a' := ?_) #[true, true, true, true, true, true, false, false, false, false, false, false, false] rfl rfl (any_of HT_.out (by kernel_rfl)) (fun _ _ _ h => h) (Or.inr ⟨by rfl, rfl⟩) ?_ ?_
      rotate_left
      · simp only [Act.put, List.setIfInBounds_toArray, List.set_cons_zero, List.set_cons_succ, i64_w, i32_w]
        rfl
      refine pure_ (i := 6) (N := some 28) (v := undef) (a' := ?_) #[true, true, true, true, true, true, true, false, false, false, false, false, false] rfl rfl (any_of HT_.out (by kernel_rfl)) (fun _ _ _ h => h) (Or.inr ⟨by rfl, rfl⟩) ?_ ?_
      rotate_left
      · simp only [Act.put, List.setIfInBounds_toArray, List.set_cons_zero, List.set_cons_succ, i64_w, i32_w]
        rfl
      refine pure_ (i := 7) (N := some 29) (v := undef) (a' := ?_) #[true, true, true, true, true, true, true, true, false, false, false, false, false] rfl rfl (any_of HT_.out (by kernel_rfl)) (fun _ _ _ h => h) (Or.inr ⟨by rfl, rfl⟩) ?_ ?_
      rotate_left
      · simp only [Act.put, List.setIfInBounds_toArray, List.set_cons_zero, List.set_cons_succ, i64_w, i32_w]
        rfl
      refine pure_ (i := 8) (N := some 30) (v := undef) (a' := ?_) #[true, true, true, true, true, true, true, true, true, false, false, false, false] rfl rfl (any_of HT_.out (by kernel_rfl)) (fun _ _ _ h => h) (Or.inr ⟨by rfl, rfl⟩) ?_ ?_
      rotate_left
      · simp only [Act.put, List.setIfInBounds_toArray, List.set_cons_zero, List.set_cons_succ, i64_w, i32_w]
        rfl
      refine pure_ (i := 9) (N := some 31) (v := undef) (a' := ?_) #[true, true, true, true, true, true, true, true, true, true, false, false, false] rfl rfl (any_of HT_.out (by kernel_rfl)) (fun _ _ _ h => h) (Or.inr ⟨by rfl, rfl⟩) ?_ ?_
      rotate_left
      · simp only [Act.put, List.setIfInBounds_toArray, List.set_cons_zero, List.set_cons_succ, i64_w, i32_w]
        rfl
      refine pure_ (i := 10) (N := some 32) (v := undef) (a' := ?_) #[true, true, true, true, true, true, true, true, true, true, true, false, false] rfl rfl (any_of HT_.out (by kernel_rfl)) (fun _ _ _ h => h) (Or.inr ⟨by rfl, rfl⟩) ?_ ?_
      rotate_left
      · simp only [Act.put, List.setIfInBounds_toArray, List.set_cons_zero, List.set_cons_succ, i64_w, i32_w]
        rfl
      refine pure_ (i := 11) (N := some 33) (v := ?_) (a' := ?_) #[true, true, true, true, true, true, true, true, true, true, true, true, false] rfl rfl (any_of HT_.out (by kernel_rfl)) (fun _ _ _ h => h) (Or.inl ⟨by rfl, ?_⟩) ?_ ?_
      rotate_left
      · intro w'
        go_simp
        with_reducible rfl
      rotate_left
      · simp only [Act.put, List.setIfInBounds_toArray, List.set_cons_zero, List.set_cons_succ, i64_w, i32_w]
        rfl
      refine pure_ (i := 12) (N := some 4) (v := ?_) (a' := ?_) #[true, true, true, true, true, true, true, true, true, true, true, true, true] rfl rfl (any_of HT_.out (by kernel_rfl)) (fun _ _ _ h => h) (Or.inl ⟨by rfl, ?_⟩) ?_ ?_
      rotate_left
      · intro w'
        go_simp
        with_reducible rfl
      rotate_left
      · simp only [Act.put, List.setIfInBounds_toArray, List.set_cons_zero, List.set_cons_succ, i64_w, i32_w]
        rfl
      refine done_ (done_of HT_.out (by kernel_rfl)) ?_
      have n_D0 := Aside0.mk (below_then D0.out D0.out.size hHeld)
      have n_C5 := Aside0.mk (blk_below C5.out hHeld)
      have n_HR := Aside0.mk (Kd.C_below HR.out hHeld)
      clear D0 C5 HR
      have D0 := n_D0
      have C5 := n_C5
      have HR := n_HR
      clear n_D0 n_C5 n_HR
      go_wp2
      go_ret
      exact ⟨rfl, D0.out⟩
    · have h1 : xs.length = 1 := by omega
      obtain ⟨ad, rfl, _⟩ := strs_at HR.out 0 (by omega)
      obtain ⟨y, hy⟩ : ∃ y, y = xs.getD 0 ByteArray.empty := ⟨_, rfl⟩
      have hyz : y.size ≤ 140737488355000 := by
        rw [hy, List.getD_eq_getElem?_getD, List.getElem?_eq_getElem (by omega)]
        exact HSZ.out _ (List.getElem_mem _)
      have K0 : Aside0 (w_2.cell? ad = some (.string y)) := ⟨by
        have := strs_at' HR.out 0 (by omega)
        rw [← hy] at this
        have e : ad.add 0 = ad := by unfold Addr.add; split <;> simp_all
        rw [e] at this; exact this⟩
      obtain ⟨Ly, hLy⟩ : ∃ R, R = leafF y.data.toList := ⟨_, rfl⟩
      have hLyl : Ly.length = 32 := by rw [hLy]; exact leafF_len _
      have HLY : ∀ W : World, Calls Try.prog 12 #[.string y] W fun e w' => e = .returned (.agg (brw 32 Ly)) ∧ Below W.heap.size W w' := fun W => by rw [hLy]; exact leaf_agg y hyz W
      have HR1 : ∀ W : World, Kd.C Kd.string W (some ad) xs.length xs → Calls Try.prog 9 #[.slice (some ad) 1 cp] W fun e w' => e = .returned (.agg (brw 32 Ly)) ∧ Below W.heap.size W w' := fun W h => by
        have := root_agg (some ad) cp xs W h hcp (by omega) HSZ.out
        rw [root_first xs h1, ← hy, ← hLy, h1] at this
        exact this
      have heq1 := eq32 Ly Ly hLyl hLyl
      rw [decide_eq_true rfl, B32_brw Ly hLyl] at heq1
      clear hLy hy
      rw [h1]
      go_upto_region 5 with (fail)
      refine start_ (n := 13) (S := fun W => Below w_2.heap.size w_2 W) (ds := []) #[false, false, false, false, false, false, false, false, false, false, false, false, false] (by kernel_rfl) rfl rfl (below_drew1 (Below.refl _ _)) (fun hHeld => ?_); refine with_tabW msC.tab5 msC.bits5 (fun HT_ HW_ => ?_)
      generalize World.drew _ = wR at hHeld ⊢
      refine pure_ (i := 0) (N := some 22) (v := ?_) (a' := ?_) #[true, false, false, false, false, false, false, false, false, false, false, false, false] rfl rfl (any_of HT_.out (by kernel_rfl)) (fun _ _ _ h => h) (Or.inl ⟨by rfl, ?_⟩) ?_ ?_
      rotate_left
      · intro w'
        go_simp
        with_reducible rfl
      rotate_left
      · simp only [Act.put, List.setIfInBounds_toArray, List.set_cons_zero, List.set_cons_succ, i64_w, i32_w]
        rfl
      refine pure_ (i := 1) (N := some 23) (v := ?_) (a' := ?_) #[true, true, false, false, false, false, false, false, false, false, false, false, false] rfl rfl (any_of HT_.out (by kernel_rfl)) (fun _ _ _ h => h) (Or.inl ⟨by rfl, ?_⟩) ?_ ?_
      rotate_left
      · intro w'
        go_simp
        with_reducible rfl
      rotate_left
      · simp only [Act.put, List.setIfInBounds_toArray, List.set_cons_zero, List.set_cons_succ, i64_w, i32_w]
        rfl
      refine pure_ (i := 2) (N := some 24) (v := ?_) (a' := ?_) #[true, true, true, false, false, false, false, false, false, false, false, false, false] rfl rfl (any_of HT_.out (by kernel_rfl)) (fun _ _ _ h => h) (Or.inl ⟨by rfl, ?_⟩) ?_ ?_
      rotate_left
      · intro w'
        go_simp
        with_reducible rfl
      rotate_left
      · simp only [Act.put, List.setIfInBounds_toArray, List.set_cons_zero, List.set_cons_succ, i64_w, i32_w]
        rfl
      refine pure_ (i := 3) (N := some 25) (v := ?_) (a' := ?_) #[true, true, true, true, false, false, false, false, false, false, false, false, false] rfl rfl (any_of HT_.out (by kernel_rfl)) (fun _ _ _ h => h) (Or.inl ⟨by rfl, ?_⟩) ?_ ?_
      rotate_left
      · intro w'
        go_simp
        with_reducible rfl
      rotate_left
      · simp only [Act.put, List.setIfInBounds_toArray, List.set_cons_zero, List.set_cons_succ, i64_w, i32_w]
        rfl
      refine pure_ (i := 4) (N := some 26) (v := ?_) (a' := ?_) #[true, true, true, true, true, false, false, false, false, false, false, false, false] rfl rfl (any_of HT_.out (by kernel_rfl)) (fun _ _ _ h => h) (Or.inl ⟨by rfl, ?_⟩) ?_ ?_
      rotate_left
      · intro w'
        go_simp
        with_reducible rfl
      rotate_left
      · simp only [Act.put, List.setIfInBounds_toArray, List.set_cons_zero, List.set_cons_succ, i64_w, i32_w]
        rfl
      refine pure_ (i := 6) (N := some 28) (v := ?_) (a' := ?_) #[true, true, true, true, true, false, true, false, false, false, false, false, false] rfl rfl (any_of HT_.out (by kernel_rfl)) (fun _ _ _ h => h) (Or.inl ⟨by rfl, ?_⟩) ?_ ?_
      rotate_left
      · intro w'
        go_simp
        with_reducible rfl
      rotate_left
      · simp only [Act.put, List.setIfInBounds_toArray, List.set_cons_zero, List.set_cons_succ, i64_w, i32_w]
        rfl
      refine pure_ (i := 7) (N := some 29) (v := ?_) (a' := ?_) #[true, true, true, true, true, false, true, true, false, false, false, false, false] rfl rfl (any_of HT_.out (by kernel_rfl)) (fun _ _ _ h => h) (Or.inl ⟨by rfl, ?_⟩) ?_ ?_
      rotate_left
      · intro w'
        go_simp
        with_reducible rfl
      rotate_left
      · simp only [Act.put, List.setIfInBounds_toArray, List.set_cons_zero, List.set_cons_succ, i64_w, i32_w]
        rfl
      refine take_ (i := 8) (N := some 30) (v := ?_) (a' := ?_) #[true, true, true, true, true, false, true, true, true, false, false, false, false] rfl rfl (take_ofW HT_.out HW_.out (by kernel_rfl)) (fun _ _ _ h => h) (Or.inl ⟨by rfl, ?_⟩) hHeld ?_ ?_
      rotate_left
      · rintro w' s0
        have hK := below_cell' s0 K0.out
        go_simp
        with_reducible rfl
      rotate_left
      · simp only [Act.put, List.setIfInBounds_toArray, List.set_cons_zero, List.set_cons_succ, i64_w, i32_w]
        rfl
      refine one_ (i := 5) (N := some 27) #[true, true, true, true, true, true, true, true, true, false, false, false, false] rfl rfl (one_of HT_.out (by kernel_rfl)) (by decide) (fun K hK => ?_)
      refine goes_ Try.func9 (by kernel_rfl) rfl #[.slice (some ad) 1 cp] (by rfl) rfl rfl (by (try simp only [List.map_toArray, List.map_cons, List.map_nil]); first | done | rfl) ?_
      with_reducible refine (HR1 _ (Kd.C_below HR.out hHeld)).mono ?_
      rintro e w_2 ⟨rfl, hb⟩
      refine ⟨_, rfl, ?_⟩
      have hb2 := below_then hHeld hHeld.size hb
      refine hK.out _ _ hb2 (fun hHeld => ?_)
      clear hK K
      refine norm_ (a' := ?_) ?_ ?_
      rotate_left
      · show Act.put _ (some 27) _ = _
        simp only [Act.put, List.setIfInBounds_toArray, List.set_cons_zero, List.set_cons_succ, i64_w, i32_w]
        rfl
      clear hb2 hb
      refine one_ (i := 9) (N := some 31) #[true, true, true, true, true, true, true, true, true, true, false, false, false] rfl rfl (one_of HT_.out (by kernel_rfl)) (by decide) (fun K hK => ?_)
      refine goes_ Try.func12 (by kernel_rfl) rfl #[.string y] (by rfl) rfl rfl (by (try simp only [List.map_toArray, List.map_cons, List.map_nil]); first | done | rfl) ?_
      with_reducible refine (HLY _).mono ?_
      rintro e w_2 ⟨rfl, hb⟩
      refine ⟨_, rfl, ?_⟩
      have hb2 := below_then hHeld hHeld.size hb
      refine hK.out _ _ hb2 (fun hHeld => ?_)
      clear hK K
      refine norm_ (a' := ?_) ?_ ?_
      rotate_left
      · show Act.put _ (some 31) _ = _
        simp only [Act.put, List.setIfInBounds_toArray, List.set_cons_zero, List.set_cons_succ, i64_w, i32_w]
        rfl
      clear hb2 hb
      refine pure_ (i := 10) (N := some 32) (v := ?_) (a' := ?_) #[true, true, true, true, true, true, true, true, true, true, true, false, false] rfl rfl (any_of HT_.out (by kernel_rfl)) (fun _ _ _ h => h) (Or.inl ⟨by rfl, ?_⟩) ?_ ?_
      rotate_left
      · intro w'
        go_simp
        with_reducible rfl
      rotate_left
      · simp only [Act.put, List.setIfInBounds_toArray, List.set_cons_zero, List.set_cons_succ, i64_w, i32_w]
        rfl
      refine pure_ (i := 11) (N := some 33) (v := ?_) (a' := ?_) #[true, true, true, true, true, true, true, true, true, true, true, true, false] rfl rfl (any_of HT_.out (by kernel_rfl)) (fun _ _ _ h => h) (Or.inl ⟨by rfl, ?_⟩) ?_ ?_
      rotate_left
      · intro w'
        go_simp
        with_reducible rfl
      rotate_left
      · simp only [Act.put, List.setIfInBounds_toArray, List.set_cons_zero, List.set_cons_succ, i64_w, i32_w]
        rfl
      refine pure_ (i := 12) (N := some 4) (v := ?_) (a' := ?_) #[true, true, true, true, true, true, true, true, true, true, true, true, true] rfl rfl (any_of HT_.out (by kernel_rfl)) (fun _ _ _ h => h) (Or.inl ⟨by rfl, ?_⟩) ?_ ?_
      rotate_left
      · intro w'
        go_simp
        with_reducible rfl
      rotate_left
      · simp only [Act.put, List.setIfInBounds_toArray, List.set_cons_zero, List.set_cons_succ, i64_w, i32_w]
        rfl
      refine done_ (done_of HT_.out (by kernel_rfl)) ?_
      have n_D0 := Aside0.mk (below_then D0.out D0.out.size hHeld)
      have n_C5 := Aside0.mk (blk_below C5.out hHeld)
      have n_HR := Aside0.mk (Kd.C_below HR.out hHeld)
      clear D0 C5 HR
      have D0 := n_D0
      have C5 := n_C5
      have HR := n_HR
      clear n_D0 n_C5 n_HR
      go_wp2
      go_ret
      exact ⟨rfl, D0.out⟩
  have q1 : ((xs.length : Int) < 2) = False := eq_false (by omega)
  obtain ⟨ad, rfl, _⟩ := strs_at HR.out 0 (by omega)
  go_wp2
  go_loopw [6] (fun v6 W => ∃ k : Nat, v6 = .int .i64 (k : Int) ∧ 0 < k ∧ k < xs.length ∧ Aside0 (∃ d : Nat, k = 2 ^ d) ∧ Aside0 (W.heap[w2.heap.size]? = some (.cells (brw 32 Lt) 23 (0, 0))) ∧ Aside0 (Kd.C Kd.string W (some ad) xs.length xs) ∧ Aside0 (Below w.heap.size w W)) (fun v6 _ => xs.length - (intOf v6).toNat)
  case atStart => exact ⟨1, rfl, by decide, by omega, ⟨0, rfl⟩, C5, HR, D0⟩
  case round =>
    clear C5 HR D0
    obtain ⟨k, rfl, hk0, hkn, HKD, C5, HR, D0⟩ := hrel
    by_cases hlt : 2 * k < xs.length
    · have q2 : (2 * (k : Int) < (xs.length : Int)) = True := eq_true (by omega)
      go_wp2
      go_roundw
      case rel => exact ⟨2 * k, by go_num, by omega, by omega, ⟨by obtain ⟨d, rfl⟩ := HKD.out; exact ⟨d + 1, by rw [Nat.pow_succ, Nat.mul_comm]⟩⟩, C5, HR, D0⟩
      case measure => simp [intOf]; omega
    · have q2 : (2 * (k : Int) < (xs.length : Int)) = False := eq_false (by omega)
      have e1 : (xs.take k).length = k := by rw [List.length_take]; omega
      have e2 : (xs.drop k).length = xs.length - k := List.length_drop
      obtain ⟨R, hR⟩ : ∃ R, R = rootF xs := ⟨_, rfl⟩
      obtain ⟨Rk, hRk⟩ : ∃ R, R = rootF (xs.take k) := ⟨_, rfl⟩
      obtain ⟨Rd, hRd⟩ : ∃ R, R = rootF (xs.drop k) := ⟨_, rfl⟩
      obtain ⟨Rg, hRg⟩ : ∃ R, R = rootF (xs.take k ++ [s]) := ⟨_, rfl⟩
      have hRl : R.length = 32 := by rw [hR]; exact rootF_len _
      have hRkl : Rk.length = 32 := by rw [hRk]; exact rootF_len _
      have hRdl : Rd.length = 32 := by rw [hRd]; exact rootF_len _
      have hRgl : Rg.length = 32 := by rw [hRg]; exact rootF_len _
      have E1 : nodeF Rk Rd = R := by
        obtain ⟨d, rfl⟩ := HKD.out
        rw [hR, hRk, hRd, ← root_split xs d hkn (by omega)]
      have E2 : nodeF Rk Lt = Rg := by
        obtain ⟨d, rfl⟩ := HKD.out
        rw [hRg, hRk, HLE.out, ← root_grown xs d hkn s]
      have HRA : ∀ W : World, Kd.C Kd.string W (some ad) xs.length xs → Calls Try.prog 9 #[.slice (some ad) xs.length cp] W fun e w' => e = .returned (.agg (brw 32 R)) ∧ Below W.heap.size W w' := fun W h => by
        rw [hR]; exact root_agg (some ad) cp xs W h hcp (by omega) HSZ.out
      have HRK : ∀ W : World, Kd.C Kd.string W (some ad) xs.length xs → Calls Try.prog 9 #[.slice (some ad) k cp] W fun e w' => e = .returned (.agg (brw 32 Rk)) ∧ Below W.heap.size W w' := fun W h => by
        have := root_agg (some ad) cp (xs.take k) W (by rw [e1]; exact C_take h k (by omega)) (by omega) (by omega) (fun s h => HSZ.out s (List.mem_of_mem_take h))
        rw [e1, ← hRk] at this
        exact this
      have HRD : ∀ W : World, Kd.C Kd.string W (some ad) xs.length xs → Calls Try.prog 9 #[.slice (some (ad.add k)) (xs.length - k) (cp - k)] W fun e w' => e = .returned (.agg (brw 32 Rd)) ∧ Below W.heap.size W w' := fun W h => by
        have := root_agg (some (ad.add k)) (cp - k) (xs.drop k) W (by rw [e2]; exact C_drop h k hkn) (by omega) (by omega) (fun s h => HSZ.out s (List.mem_of_mem_drop h))
        rw [e2, ← hRd] at this
        exact this
      have HRG : ∀ (W : World) (G : Option Addr) (cg : Nat), k + 1 ≤ cg → Kd.C Kd.string W G (k + 1) (xs.take k ++ [s]) → Calls Try.prog 9 #[.slice G (k + 1) cg] W fun e w' => e = .returned (.agg (brw 32 Rg)) ∧ Below W.heap.size W w' := fun W G cg hc h => by
        have e3 : (xs.take k ++ [s]).length = k + 1 := by rw [List.length_append, e1]; rfl
        have := root_agg G cg (xs.take k ++ [s]) W (by rw [e3]; exact h) (by omega) (by omega) (fun s' h => by
          rcases List.mem_append.1 h with h | h
          · exact HSZ.out s' (List.mem_of_mem_take h)
          · rw [List.mem_singleton.1 h]; exact hs)
        rw [e3, ← hRg] at this
        exact this
      have HNK : ∀ W : World, Calls Try.prog 14 #[.agg (brw 32 Rk), .agg (brw 32 Rd)] W fun e w' => e = .returned (.agg (brw 32 R)) ∧ Below W.heap.size W w' := fun W => by rw [← E1]; exact node_agg Rk Rd hRkl hRdl W
      have HNL : ∀ W : World, Calls Try.prog 14 #[.agg (brw 32 Rk), .agg (brw 32 Lt)] W fun e w' => e = .returned (.agg (brw 32 Rg)) ∧ Below W.heap.size W w' := fun W => by rw [← E2]; exact node_agg Rk Lt hRkl hLtl W
      have heq1 := eq32 R R hRl hRl
      rw [decide_eq_true rfl, B32_brw R hRl] at heq1
      have heq2 := eq32 Rg Rg hRgl hRgl
      rw [decide_eq_true rfl, B32_brw Rg hRgl] at heq2
      clear hR hRk hRd hRg E1 E2
      have t1 : (k ≤ cp) = True := eq_true (by omega)
      have t2 : (k ≤ xs.length) = True := eq_true (by omega)
      have t3 : (cp = k) = False := eq_false (by omega)
      have t4 : (cp ≤ k) = False := eq_false (by omega)
      go_upto_region 9 with (fail)
      refine start_ (n := 12) (S := fun W => Below wr.heap.size wr W) (ds := []) #[false, false, false, false, false, false, false, false, false, false, false, false] (by kernel_rfl) rfl rfl (below_drew1 (Below.refl _ _)) (fun hHeld => ?_); refine with_tabW msD.tab9 msD.bits9 (fun HT_ HW_ => ?_)
      generalize World.drew _ = wR at hHeld ⊢
      refine pure_ (i := 0) (N := some 41) (v := ?_) (a' := ?_) #[true, false, false, false, false, false, false, false, false, false, false, false] rfl rfl (any_of HT_.out (by kernel_rfl)) (fun _ _ _ h => h) (Or.inl ⟨by rfl, ?_⟩) ?_ ?_
      rotate_left
      · intro w'
        go_simp
        with_reducible rfl
      rotate_left
      · simp only [Act.put, List.setIfInBounds_toArray, List.set_cons_zero, List.set_cons_succ, i64_w, i32_w]
        rfl
      refine pure_ (i := 2) (N := some 43) (v := ?_) (a' := ?_) #[true, false, true, false, false, false, false, false, false, false, false, false] rfl rfl (any_of HT_.out (by kernel_rfl)) (fun _ _ _ h => h) (Or.inl ⟨by rfl, ?_⟩) ?_ ?_
      rotate_left
      · intro w'
        go_simp
        with_reducible rfl
      rotate_left
      · simp only [Act.put, List.setIfInBounds_toArray, List.set_cons_zero, List.set_cons_succ, i64_w, i32_w]
        rfl
      refine pure_ (i := 3) (N := some 44) (v := ?_) (a' := ?_) #[true, false, true, true, false, false, false, false, false, false, false, false] rfl rfl (any_of HT_.out (by kernel_rfl)) (fun _ _ _ h => h) (Or.inl ⟨by rfl, ?_⟩) ?_ ?_
      rotate_left
      · intro w'
        go_simp
        with_reducible rfl
      rotate_left
      · simp only [Act.put, List.setIfInBounds_toArray, List.set_cons_zero, List.set_cons_succ, i64_w, i32_w]
        rfl
      refine pure_ (i := 4) (N := some 45) (v := ?_) (a' := ?_) #[true, false, true, true, true, false, false, false, false, false, false, false] rfl rfl (any_of HT_.out (by kernel_rfl)) (fun _ _ _ h => h) (Or.inl ⟨by rfl, ?_⟩) ?_ ?_
      rotate_left
      · intro w'
        go_simp
        with_reducible rfl
      rotate_left
      · simp only [Act.put, List.setIfInBounds_toArray, List.set_cons_zero, List.set_cons_succ, i64_w, i32_w]
        rfl
      refine pure_ (i := 6) (N := some 47) (v := ?_) (a' := ?_) #[true, false, true, true, true, false, true, false, false, false, false, false] rfl rfl (any_of HT_.out (by kernel_rfl)) (fun _ _ _ h => h) (Or.inl ⟨by rfl, ?_⟩) ?_ ?_
      rotate_left
      · intro w'
        go_simp
        with_reducible rfl
      rotate_left
      · simp only [Act.put, List.setIfInBounds_toArray, List.set_cons_zero, List.set_cons_succ, i64_w, i32_w]
        rfl
      refine pure_ (i := 7) (N := some 48) (v := ?_) (a' := ?_) #[true, false, true, true, true, false, true, true, false, false, false, false] rfl rfl (any_of HT_.out (by kernel_rfl)) (fun _ _ _ h => h) (Or.inl ⟨by rfl, ?_⟩) ?_ ?_
      rotate_left
      · intro w'
        go_simp
        with_reducible rfl
      rotate_left
      · simp only [Act.put, List.setIfInBounds_toArray, List.set_cons_zero, List.set_cons_succ, i64_w, i32_w]
        rfl
      refine pure_ (i := 8) (N := some 49) (v := ?_) (a' := ?_) #[true, false, true, true, true, false, true, true, true, false, false, false] rfl rfl (any_of HT_.out (by kernel_rfl)) (fun _ _ _ h => h) (Or.inl ⟨by rfl, ?_⟩) ?_ ?_
      rotate_left
      · intro w'
        go_simp
        with_reducible rfl
      rotate_left
      · simp only [Act.put, List.setIfInBounds_toArray, List.set_cons_zero, List.set_cons_succ, i64_w, i32_w]
        rfl
      refine one_ (i := 1) (N := some 42) #[true, true, true, true, true, false, true, true, true, false, false, false] rfl rfl (one_of HT_.out (by kernel_rfl)) (by decide) (fun K hK => ?_)
      refine goes_ Try.func9 (by kernel_rfl) rfl #[.slice (some ad) xs.length cp] (by rfl) rfl rfl (by (try simp only [List.map_toArray, List.map_cons, List.map_nil]); first | done | rfl) ?_
      with_reducible refine (HRA _ (Kd.C_below HR.out hHeld)).mono ?_
      rintro e w_2 ⟨rfl, hb⟩
      refine ⟨_, rfl, ?_⟩
      have hb2 := below_then hHeld hHeld.size hb
      refine hK.out _ _ hb2 (fun hHeld => ?_)
      clear hK K
      refine norm_ (a' := ?_) ?_ ?_
      rotate_left
      · show Act.put _ (some 42) _ = _
        simp only [Act.put, List.setIfInBounds_toArray, List.set_cons_zero, List.set_cons_succ, i64_w, i32_w]
        rfl
      clear hb2 hb
      refine one_ (i := 5) (N := some 46) #[true, true, true, true, true, true, true, true, true, false, false, false] rfl rfl (one_of HT_.out (by kernel_rfl)) (by decide) (fun K hK => ?_)
      refine goes_ Try.func9 (by kernel_rfl) rfl #[.slice (some ad) k cp] (by rfl) rfl rfl (by (try simp only [List.map_toArray, List.map_cons, List.map_nil]); first | done | rfl) ?_
      with_reducible refine (HRK _ (Kd.C_below HR.out hHeld)).mono ?_
      rintro e w_2 ⟨rfl, hb⟩
      refine ⟨_, rfl, ?_⟩
      have hb2 := below_then hHeld hHeld.size hb
      refine hK.out _ _ hb2 (fun hHeld => ?_)
      clear hK K
      refine norm_ (a' := ?_) ?_ ?_
      rotate_left
      · show Act.put _ (some 46) _ = _
        simp only [Act.put, List.setIfInBounds_toArray, List.set_cons_zero, List.set_cons_succ, i64_w, i32_w]
        rfl
      clear hb2 hb
      refine one_ (i := 9) (N := some 50) #[true, true, true, true, true, true, true, true, true, true, false, false] rfl rfl (one_of HT_.out (by kernel_rfl)) (by decide) (fun K hK => ?_)
      refine goes_ Try.func9 (by kernel_rfl) rfl #[.slice (some (ad.add k)) (xs.length - k) (cp - k)] (by rfl) rfl rfl (by (try simp only [List.map_toArray, List.map_cons, List.map_nil]); first | done | rfl) ?_
      with_reducible refine (HRD _ (Kd.C_below HR.out hHeld)).mono ?_
      rintro e w_2 ⟨rfl, hb⟩
      refine ⟨_, rfl, ?_⟩
      have hb2 := below_then hHeld hHeld.size hb
      refine hK.out _ _ hb2 (fun hHeld => ?_)
      clear hK K
      refine norm_ (a' := ?_) ?_ ?_
      rotate_left
      · show Act.put _ (some 50) _ = _
        simp only [Act.put, List.setIfInBounds_toArray, List.set_cons_zero, List.set_cons_succ, i64_w, i32_w]
        rfl
      clear hb2 hb
      refine one_ (i := 10) (N := some 51) #[true, true, true, true, true, true, true, true, true, true, true, false] rfl rfl (one_of HT_.out (by kernel_rfl)) (by decide) (fun K hK => ?_)
      refine goes_ Try.func14 (by kernel_rfl) rfl #[.agg (brw 32 Rk), .agg (brw 32 Rd)] (by rfl) rfl rfl (by (try simp only [List.map_toArray, List.map_cons, List.map_nil]); first | done | rfl) ?_
      with_reducible refine (HNK _).mono ?_
      rintro e w_2 ⟨rfl, hb⟩
      refine ⟨_, rfl, ?_⟩
      have hb2 := below_then hHeld hHeld.size hb
      refine hK.out _ _ hb2 (fun hHeld => ?_)
      clear hK K
      refine norm_ (a' := ?_) ?_ ?_
      rotate_left
      · show Act.put _ (some 51) _ = _
        simp only [Act.put, List.setIfInBounds_toArray, List.set_cons_zero, List.set_cons_succ, i64_w, i32_w]
        rfl
      clear hb2 hb
      refine pure_ (i := 11) (N := some 52) (v := ?_) (a' := ?_) #[true, true, true, true, true, true, true, true, true, true, true, true] rfl rfl (any_of HT_.out (by kernel_rfl)) (fun _ _ _ h => h) (Or.inl ⟨by rfl, ?_⟩) ?_ ?_
      rotate_left
      · intro w'
        go_simp
        with_reducible rfl
      rotate_left
      · simp only [Act.put, List.setIfInBounds_toArray, List.set_cons_zero, List.set_cons_succ, i64_w, i32_w]
        rfl
      refine done_ (done_of HT_.out (by kernel_rfl)) ?_
      have n_D0 := Aside0.mk (below_then D0.out D0.out.size hHeld)
      have n_C5 := Aside0.mk (blk_below C5.out hHeld)
      have n_HR := Aside0.mk (Kd.C_below HR.out hHeld)
      clear D0 C5 HR
      have D0 := n_D0
      have C5 := n_C5
      have HR := n_HR
      clear n_D0 n_C5 n_HR
      have hRK := C_take HR.out k (by omega)
      rw [show Kd.C Kd.string w_2 (some ad) k (xs.take k) = Kd.C Kd.string w_2 (some ad) (xs.take k).length (xs.take k) by rw [e1]] at hRK
      have HAP := append_texts w_2.heap.size (.slice none 0 0) [] (xs.take k) w_2 w_2 ad cp (srow_nil _ _) (Below.refl _ _) (Nat.le_refl _) hRK (by simp; omega)
      rw [e1] at HAP
      obtain ⟨v5, w5, ha1, ha2, ha3⟩ := HAP
      have HAP2 := append_texts w_2.heap.size v5 (xs.take k) [s] w_2 (w5.alloc (.cells #[.string s] 9)) ⟨w5.heap.size, 0, none⟩ 1 (srow_below ha2 (below_alloc (Below.refl _ _) _)) (below_alloc ha3 _) (below_alloc ha3 _).size (texts_block [s] (by show 1 ≤ _; decide) (blk_new _ _) (fun j hj => (by match j, hj with | 0, _ => rfl))) (by rw [e1]; show k + 1 ≤ _; omega)
      obtain ⟨v9, w9, hc1, hc2, hc3⟩ := HAP2
      obtain ⟨G, cg, rfl, hcg, hgr⟩ := srow_read hc2 (by rw [List.length_append, e1]; show k + 1 ≤ _; omega)
      have e3 : (xs.take k ++ [s]).length = k + 1 := by rw [List.length_append, e1]; rfl
      rw [e3] at hc1 hcg hgr
      have HG := Aside0.mk hgr
      have HA1 := Aside0.mk ha1
      have HC1 := Aside0.mk hc1
      have HB9 := Aside0.mk hc3
      clear ha1 ha2 ha3 hc1 hc2 hc3 hgr hRK
      go_upto_region 14 with (first
        | ((with_reducible refine gate_dst (N := 57) rfl ?_); go_loud (refine Kd.event_run rfl (exec_append22 (.tmp 53) (.tmp 56) rfl rfl _ _ rfl rfl HA1.out) ?_))
        | ((with_reducible refine gate_dst (N := 61) rfl ?_); go_loud (refine Kd.event_run rfl (exec_append22 (.tmp 58) (.tmp 60) rfl rfl _ _ rfl rfl HC1.out) ?_)))
      have n_D0 := Aside0.mk (below_then D0.out D0.out.size HB9.out)
      have n_C5 := Aside0.mk (blk_below C5.out HB9.out)
      have n_HR := Aside0.mk (Kd.C_below HR.out HB9.out)
      clear D0 C5 HR
      have D0 := n_D0
      have C5 := n_C5
      have HR := n_HR
      clear n_D0 n_C5 n_HR
      refine start_ (n := 10) (S := fun W => Below w9.heap.size w9 W) (ds := []) #[false, false, false, false, false, false, false, false, false, false] (by kernel_rfl) rfl rfl (below_drew1 (Below.refl _ _)) (fun hHeld => ?_); refine with_tabW msE.tab14 msE.bits14 (fun HT_ HW_ => ?_)
      generalize World.drew _ = wR at hHeld ⊢
      refine pure_ (i := 0) (N := some 62) (v := ?_) (a' := ?_) #[true, false, false, false, false, false, false, false, false, false] rfl rfl (any_of HT_.out (by kernel_rfl)) (fun _ _ _ h => h) (Or.inl ⟨by rfl, ?_⟩) ?_ ?_
      rotate_left
      · intro w'
        go_simp
        with_reducible rfl
      rotate_left
      · simp only [Act.put, List.setIfInBounds_toArray, List.set_cons_zero, List.set_cons_succ, i64_w, i32_w]
        rfl
      refine pure_ (i := 2) (N := some 64) (v := ?_) (a' := ?_) #[true, false, true, false, false, false, false, false, false, false] rfl rfl (any_of HT_.out (by kernel_rfl)) (fun _ _ _ h => h) (Or.inl ⟨by rfl, ?_⟩) ?_ ?_
      rotate_left
      · intro w'
        go_simp
        with_reducible rfl
      rotate_left
      · simp only [Act.put, List.setIfInBounds_toArray, List.set_cons_zero, List.set_cons_succ, i64_w, i32_w]
        rfl
      refine pure_ (i := 3) (N := some 65) (v := ?_) (a' := ?_) #[true, false, true, true, false, false, false, false, false, false] rfl rfl (any_of HT_.out (by kernel_rfl)) (fun _ _ _ h => h) (Or.inl ⟨by rfl, ?_⟩) ?_ ?_
      rotate_left
      · intro w'
        go_simp
        with_reducible rfl
      rotate_left
      · simp only [Act.put, List.setIfInBounds_toArray, List.set_cons_zero, List.set_cons_succ, i64_w, i32_w]
        rfl
      refine pure_ (i := 4) (N := some 66) (v := ?_) (a' := ?_) #[true, false, true, true, true, false, false, false, false, false] rfl rfl (any_of HT_.out (by kernel_rfl)) (fun _ _ _ h => h) (Or.inl ⟨by rfl, ?_⟩) ?_ ?_
      rotate_left
      · intro w'
        go_simp
        with_reducible rfl
      rotate_left
      · simp only [Act.put, List.setIfInBounds_toArray, List.set_cons_zero, List.set_cons_succ, i64_w, i32_w]
        rfl
      refine take_ (i := 6) (N := some 68) (v := ?_) (a' := ?_) #[true, false, true, true, true, false, true, false, false, false] rfl rfl (take_ofW HT_.out HW_.out (by kernel_rfl)) (fun _ _ _ h => h) (Or.inl ⟨by rfl, ?_⟩) hHeld ?_ ?_
      rotate_left
      · rintro w' s0
        refine exec_load_row 23 (.tmp 5) ?_ w2.heap.size ?_ 23 (brw 32 Lt) (0, 0) _ (blk_below C5.out s0) Try.underlying23 ?_ (by rw [brw_size 32 Lt (by omega)]; exact i23) <;> rfl
      rotate_left
      · simp only [Act.put, List.setIfInBounds_toArray, List.set_cons_zero, List.set_cons_succ, i64_w, i32_w]
        rfl
      refine one_ (i := 1) (N := some 63) #[true, true, true, true, true, false, true, false, false, false] rfl rfl (one_of HT_.out (by kernel_rfl)) (by decide) (fun K hK => ?_)
      refine goes_ Try.func9 (by kernel_rfl) rfl #[.slice G (k + 1) cg] (by rfl) rfl rfl (by (try simp only [List.map_toArray, List.map_cons, List.map_nil]); first | done | rfl) ?_
      with_reducible refine (HRG _ G cg hcg (Kd.C_below HG.out hHeld)).mono ?_
      rintro e w_2 ⟨rfl, hb⟩
      refine ⟨_, rfl, ?_⟩
      have hb2 := below_then hHeld hHeld.size hb
      refine hK.out _ _ hb2 (fun hHeld => ?_)
      clear hK K
      refine norm_ (a' := ?_) ?_ ?_
      rotate_left
      · show Act.put _ (some 63) _ = _
        simp only [Act.put, List.setIfInBounds_toArray, List.set_cons_zero, List.set_cons_succ, i64_w, i32_w]
        rfl
      clear hb2 hb
      refine one_ (i := 5) (N := some 67) #[true, true, true, true, true, true, true, false, false, false] rfl rfl (one_of HT_.out (by kernel_rfl)) (by decide) (fun K hK => ?_)
      refine goes_ Try.func9 (by kernel_rfl) rfl #[.slice (some ad) k cp] (by rfl) rfl rfl (by (try simp only [List.map_toArray, List.map_cons, List.map_nil]); first | done | rfl) ?_
      with_reducible refine (HRK _ (Kd.C_below HR.out hHeld)).mono ?_
      rintro e w_2 ⟨rfl, hb⟩
      refine ⟨_, rfl, ?_⟩
      have hb2 := below_then hHeld hHeld.size hb
      refine hK.out _ _ hb2 (fun hHeld => ?_)
      clear hK K
      refine norm_ (a' := ?_) ?_ ?_
      rotate_left
      · show Act.put _ (some 67) _ = _
        simp only [Act.put, List.setIfInBounds_toArray, List.set_cons_zero, List.set_cons_succ, i64_w, i32_w]
        rfl
      clear hb2 hb
      refine one_ (i := 7) (N := some 69) #[true, true, true, true, true, true, true, true, false, false] rfl rfl (one_of HT_.out (by kernel_rfl)) (by decide) (fun K hK => ?_)
      refine goes_ Try.func14 (by kernel_rfl) rfl #[.agg (brw 32 Rk), .agg (brw 32 Lt)] (by rfl) rfl rfl (by (try simp only [List.map_toArray, List.map_cons, List.map_nil]); first | done | rfl) ?_
      with_reducible refine (HNL _).mono ?_
      rintro e w_2 ⟨rfl, hb⟩
      refine ⟨_, rfl, ?_⟩
      have hb2 := below_then hHeld hHeld.size hb
      refine hK.out _ _ hb2 (fun hHeld => ?_)
      clear hK K
      refine norm_ (a' := ?_) ?_ ?_
      rotate_left
      · show Act.put _ (some 69) _ = _
        simp only [Act.put, List.setIfInBounds_toArray, List.set_cons_zero, List.set_cons_succ, i64_w, i32_w]
        rfl
      clear hb2 hb
      refine pure_ (i := 8) (N := some 70) (v := ?_) (a' := ?_) #[true, true, true, true, true, true, true, true, true, false] rfl rfl (any_of HT_.out (by kernel_rfl)) (fun _ _ _ h => h) (Or.inl ⟨by rfl, ?_⟩) ?_ ?_
      rotate_left
      · intro w'
        go_simp
        with_reducible rfl
      rotate_left
      · simp only [Act.put, List.setIfInBounds_toArray, List.set_cons_zero, List.set_cons_succ, i64_w, i32_w]
        rfl
      refine pure_ (i := 9) (N := some 4) (v := ?_) (a' := ?_) #[true, true, true, true, true, true, true, true, true, true] rfl rfl (any_of HT_.out (by kernel_rfl)) (fun _ _ _ h => h) (Or.inl ⟨by rfl, ?_⟩) ?_ ?_
      rotate_left
      · intro w'
        go_simp
        with_reducible rfl
      rotate_left
      · simp only [Act.put, List.setIfInBounds_toArray, List.set_cons_zero, List.set_cons_succ, i64_w, i32_w]
        rfl
      refine done_ (done_of HT_.out (by kernel_rfl)) ?_
      have n_D0 := Aside0.mk (below_then D0.out D0.out.size hHeld)
      have n_C5 := Aside0.mk (blk_below C5.out hHeld)
      have n_HR := Aside0.mk (Kd.C_below HR.out hHeld)
      have n_HG := Aside0.mk (Kd.C_below HG.out hHeld)
      clear D0 C5 HR HG
      have D0 := n_D0
      have C5 := n_C5
      have HR := n_HR
      have HG := n_HG
      clear n_D0 n_C5 n_HR n_HG
      go_wp2
      go_ret
      exact ⟨rfl, D0.out⟩
end Go.Proofs.Ythpnppfpmhlkaaa.Sha
