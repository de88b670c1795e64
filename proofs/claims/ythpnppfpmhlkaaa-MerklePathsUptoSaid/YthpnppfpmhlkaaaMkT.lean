/- Chapter 3: MerklePaths, walked. -/
import Derived.Test.YthpnppfpmhlkaaaMkS
import Derived.Test.YthpnppfpmhlkaaaMkI
import Derived.Test.YthpnppfpmhlkaaaMkK
namespace Go.Proofs.Ythpnppfpmhlkaaa.Sha
open Go.RowKit Go.Proofs.Ythpnppfpmhlkaaa.X Go.Proofs.YthpnppfpmhlkaaaW.PrintWords Go.Proofs.YthpnppfpmhlkaaaW.PrintLast Go.Proofs.YthpnppfpmhlkaaaW.PrintMore
set_option linter.unusedVariables false
set_option linter.unusedSimpArgs false

theorem append_nil_nil31 (c : Nat) (W : World) : (Builtin.append_ #[31, 31] 31 #[.slice none 0 0, .slice none 0 c]).run Try.prog W = .ok (.slice none 0 0) W := by
  obtain ⟨i0, hi, _⟩ := Option.map_eq_some_iff.1 info23
  simp [Builtin.append_, run_underlying Try.underlying31, sizeOf, typeInfo, hi, Builtin.lenOf, Builtin.firstCells, loadCells, loadCellsFrom]
/-- A copy of a row of hashes. -/
theorem copy_hrows (A : Option Addr) (c : Nat) (rows : List (List UInt8)) (W : World) (h : HRead A rows W) (hl : rows.length ≤ 1099511627776) :
    ∃ v' W', (Builtin.append_ #[31, 31] 31 #[.slice none 0 0, .slice A rows.length c]).run Try.prog W = .ok v' W' ∧ HRow W.heap.size v' rows W' ∧ Below W.heap.size W W' := by
  cases A with
  | none =>
    have h0 : rows.length = 0 := by
      by_cases h1 : 0 < rows.length
      · obtain ⟨_, e, _⟩ := h.2 h1
        cases e
      · omega
    rw [h0]
    refine ⟨_, _, append_nil_nil31 c W, ?_, Below.refl _ _⟩
    rw [List.eq_nil_of_length_eq_zero h0]; exact hrow_nil _ _
  | some ad =>
    obtain ⟨v', W', h1, h2, h3, _⟩ := append_hrows W.heap.size (.slice none 0 0) [] rows W W ad c (hrow_nil _ _) (Below.refl _ _) (Nat.le_refl _) h (by simp; omega)
    exact ⟨v', W', h1, h2, h3⟩
set_option maxHeartbeats 8000000 in
set_option maxRecDepth 100000 in
theorem paths_walk (A : Option Addr) (cp : Nat) (xs : List ByteArray) (i : Int) (root : List UInt8) (n : Int) (s : ByteArray) (P : Option Addr) (cq : Nat) (ps : List (List UInt8)) (w : World) (hr : Kd.C Kd.string w A xs.length xs) (hcp : xs.length ≤ cp) (hn : xs.length ≤ 1048576) (hsz : ∀ s ∈ xs, s.size ≤ 140737488355000)
    (hroot : root.length = 32) (hn2 : n ≤ 9223372036854775807) (hs : s.size ≤ 140737488355000) (hpc : ps.length ≤ cq) (hpl : ps.length ≤ 1048576) (hp : HRead P ps w) :
    Calls Try.prog 4 #[.slice A xs.length cp, .int .i64 i, .agg (brw 32 root), .int .i64 n, .string s, .slice P ps.length cq] w fun e w' => e = .returned (.bool true) ∧ Below w.heap.size w w' := by
  have i23 : (Try.prog.info? 23).map (·.size) = some 32 := by kernel_rfl
  have hzr : (brw 32 root).size = 32 := brw_size 32 root (by omega)
  have hPL : (pathF xs i).length ≤ 20 := by
    unfold pathF
    split
    · exact pth_short 20 _ _ (by rw [tl_len]; omega)
    · exact Nat.zero_le _
  have HSZ := Aside0.mk hsz
  have hq := below_alloc (Below.refl w.heap.size w) (.cells (brw 32 root) 23)
  have CR : Aside0 ((w.alloc (.cells (brw 32 root) 23)).heap[w.heap.size]? = some (.cells (brw 32 root) 23 (0, 0))) := ⟨blk_new _ _⟩
  have HR := Aside0.mk (Kd.C_below hr hq)
  have HP := Aside0.mk (hread_below hp hq)
  have D0 := Aside0.mk hq
  clear hr hp hq hsz
  go_enter Try.func4, Try.ntmps4
  go_upto_region 1 with (fail)
  change Code.wp _ _ _ _ (w.alloc (.cells (brw 32 root) 23))
  generalize w.alloc (.cells (brw 32 root) 23) = w1 at CR D0 HR HP ⊢
  go_wp2_with (first
    | (go_at_call 8; (with_reducible refine (lent_calls A cp xs _ HR.out hcp (by omega)).mono ?_); rintro e w2 ⟨g, c, rfl, hg, hl, hcm, hb⟩; have n_D0 := Aside0.mk (below_then D0.out D0.out.size hb); have n_CR := Aside0.mk (blk_below CR.out hb); have n_HR := Aside0.mk (Kd.C_below HR.out hb); have n_HP := Aside0.mk (hread_below HP.out hb); clear D0 CR HR HP; have D0 := n_D0; have CR := n_CR; have HR := n_HR; have HP := n_HP; clear n_D0 n_CR n_HR n_HP; have HL := Aside0.mk hl; clear hb hl hg hcm)
    | (go_at_call 17; (with_reducible refine (path_calls (some ⟨g, 0, none⟩) c xs i _ (lrow_read HL.out (by omega)) (lrow_cap HL.out) hn HSZ.out).mono ?_); rintro e w3 ⟨v1, rfl, hh, hb⟩; have n_D0 := Aside0.mk (below_then D0.out D0.out.size hb); have n_CR := Aside0.mk (blk_below CR.out hb); have n_HR := Aside0.mk (Kd.C_below HR.out hb); have n_HP := Aside0.mk (hread_below HP.out hb); have n_HL := Aside0.mk (lrow_below HL.out hb); clear D0 CR HR HP HL; have D0 := n_D0; have CR := n_CR; have HR := n_HR; have HP := n_HP; have HL := n_HL; clear n_D0 n_CR n_HR n_HP n_HL; obtain ⟨A1, c1, rfl, hc1, h1⟩ := hrow_read hh; have H1 := Aside0.mk h1; clear hb hh h1 hc1)
    | (go_at_call 18; (with_reducible refine (rpath_calls A cp xs i _ HR.out hcp hn HSZ.out).mono ?_); rintro e w4 ⟨v2, rfl, hh, hb⟩; have n_D0 := Aside0.mk (below_then D0.out D0.out.size hb); have n_CR := Aside0.mk (blk_below CR.out hb); have n_HR := Aside0.mk (Kd.C_below HR.out hb); have n_HP := Aside0.mk (hread_below HP.out hb); have n_HL := Aside0.mk (lrow_below HL.out hb); have n_H1 := Aside0.mk (hread_below H1.out hb); clear D0 CR HR HP HL H1; have D0 := n_D0; have CR := n_CR; have HR := n_HR; have HP := n_HP; have HL := n_HL; have H1 := n_H1; clear n_D0 n_CR n_HR n_HP n_HL n_H1; obtain ⟨A2, c2, rfl, hc2, h2⟩ := hrow_read hh; have H2 := Aside0.mk h2; clear hb hh h2 hc2)
    | ((with_reducible refine gate_dst (N := 35) rfl ?_); obtain ⟨v3, w5, hr1, hr2, hb⟩ := copy_hrows P cq ps w4 HP.out (by omega); refine Kd.event_run rfl (exec_append31 (.tmp 33) (.tmp 34) rfl rfl _ _ rfl rfl hr1) ?_; have n_D0 := Aside0.mk (below_then D0.out D0.out.size hb); have n_CR := Aside0.mk (blk_below CR.out hb); have n_HR := Aside0.mk (Kd.C_below HR.out hb); have n_HP := Aside0.mk (hread_below HP.out hb); have n_HL := Aside0.mk (lrow_below HL.out hb); have n_H1 := Aside0.mk (hread_below H1.out hb); have n_H2 := Aside0.mk (hread_below H2.out hb); clear D0 CR HR HP HL H1 H2; have D0 := n_D0; have CR := n_CR; have HR := n_HR; have HP := n_HP; have HL := n_HL; have H1 := n_H1; have H2 := n_H2; clear n_D0 n_CR n_HR n_HP n_HL n_H1 n_H2; obtain ⟨A3, c3, rfl, hc3, h3⟩ := hrow_read hr2; have H3 := Aside0.mk h3; clear hb hr1 hr2 h3)
    | ((with_reducible refine gate_dst (N := 36) rfl ?_); refine wpList_load_row rfl 23 (.tmp 8) rfl w.heap.size rfl 23 (brw 32 root) (0, 0) _ CR.out Try.underlying23 rfl (by rw [hzr]; exact i23) ?_)
    | ((with_reducible refine gate_dst (N := 42) rfl ?_); refine wpList_load_row rfl 23 (.tmp 8) rfl w.heap.size rfl 23 (brw 32 root) (0, 0) _ CR.out Try.underlying23 rfl (by rw [hzr]; exact i23) ?_)
    | (go_at_call 19; (with_reducible refine (holds_calls root hroot n i hn2 s hs A3 c3 ps _ hc3 H3.out).mono ?_); rintro e w6 ⟨rfl, hb⟩; have n_D0 := Aside0.mk (below_then D0.out D0.out.size hb); have n_CR := Aside0.mk (blk_below CR.out hb); have n_HR := Aside0.mk (Kd.C_below HR.out hb); have n_HP := Aside0.mk (hread_below HP.out hb); have n_HL := Aside0.mk (lrow_below HL.out hb); have n_H1 := Aside0.mk (hread_below H1.out hb); have n_H2 := Aside0.mk (hread_below H2.out hb); have n_H3 := Aside0.mk (hread_below H3.out hb); clear D0 CR HR HP HL H1 H2 H3; have D0 := n_D0; have CR := n_CR; have HR := n_HR; have HP := n_HP; have HL := n_HL; have H1 := n_H1; have H2 := n_H2; have H3 := n_H3; clear n_D0 n_CR n_HR n_HP n_HL n_H1 n_H2 n_H3; clear hb)
    | (go_at_call 20; (with_reducible refine (rholds_calls root hroot n i hn2 s hs P cq ps _ hpc (by omega) HP.out).mono ?_); rintro e w7 ⟨rfl, hb⟩; have n_D0 := Aside0.mk (below_then D0.out D0.out.size hb); have n_CR := Aside0.mk (blk_below CR.out hb); have n_HR := Aside0.mk (Kd.C_below HR.out hb); have n_HP := Aside0.mk (hread_below HP.out hb); have n_HL := Aside0.mk (lrow_below HL.out hb); have n_H1 := Aside0.mk (hread_below H1.out hb); have n_H2 := Aside0.mk (hread_below H2.out hb); have n_H3 := Aside0.mk (hread_below H3.out hb); clear D0 CR HR HP HL H1 H2 H3; have D0 := n_D0; have CR := n_CR; have HR := n_HR; have HP := n_HP; have HL := n_HL; have H1 := n_H1; have H2 := n_H2; have H3 := n_H3; clear n_D0 n_CR n_HR n_HP n_HL n_H1 n_H2 n_H3; clear hb)
    | (go_at_call 21; (with_reducible refine (same_calls A1 A2 c1 c2 (pathF xs i) _ H1.out H2.out (by omega)).mono ?_); rintro e w8 ⟨rfl, hb⟩; have n_D0 := Aside0.mk (below_then D0.out D0.out.size hb); have n_CR := Aside0.mk (blk_below CR.out hb); have n_HR := Aside0.mk (Kd.C_below HR.out hb); have n_HP := Aside0.mk (hread_below HP.out hb); have n_HL := Aside0.mk (lrow_below HL.out hb); have n_H1 := Aside0.mk (hread_below H1.out hb); have n_H2 := Aside0.mk (hread_below H2.out hb); have n_H3 := Aside0.mk (hread_below H3.out hb); clear D0 CR HR HP HL H1 H2 H3; have D0 := n_D0; have CR := n_CR; have HR := n_HR; have HP := n_HP; have HL := n_HL; have H1 := n_H1; have H2 := n_H2; have H3 := n_H3; clear n_D0 n_CR n_HR n_HP n_HL n_H1 n_H2 n_H3; clear hb)
    | (go_at_call 21; (with_reducible refine (same_calls A3 P c3 cq ps _ H3.out HP.out (by omega)).mono ?_); rintro e w9 ⟨rfl, hb⟩; have n_D0 := Aside0.mk (below_then D0.out D0.out.size hb); have n_CR := Aside0.mk (blk_below CR.out hb); have n_HR := Aside0.mk (Kd.C_below HR.out hb); have n_HP := Aside0.mk (hread_below HP.out hb); have n_HL := Aside0.mk (lrow_below HL.out hb); have n_H1 := Aside0.mk (hread_below H1.out hb); have n_H2 := Aside0.mk (hread_below H2.out hb); have n_H3 := Aside0.mk (hread_below H3.out hb); clear D0 CR HR HP HL H1 H2 H3; have D0 := n_D0; have CR := n_CR; have HR := n_HR; have HP := n_HP; have HL := n_HL; have H1 := n_H1; have H2 := n_H2; have H3 := n_H3; clear n_D0 n_CR n_HR n_HP n_HL n_H1 n_H2 n_H3; clear hb)
    | (go_at_call 16; (with_reducible refine (first_calls _).mono ?_); rintro e w10 ⟨rfl, hb⟩; have n_D0 := Aside0.mk (below_then D0.out D0.out.size hb); have n_CR := Aside0.mk (blk_below CR.out hb); have n_HR := Aside0.mk (Kd.C_below HR.out hb); have n_HP := Aside0.mk (hread_below HP.out hb); have n_HL := Aside0.mk (lrow_below HL.out hb); have n_H1 := Aside0.mk (hread_below H1.out hb); have n_H2 := Aside0.mk (hread_below H2.out hb); have n_H3 := Aside0.mk (hread_below H3.out hb); clear D0 CR HR HP HL H1 H2 H3; have D0 := n_D0; have CR := n_CR; have HR := n_HR; have HP := n_HP; have HL := n_HL; have H1 := n_H1; have H2 := n_H2; have H3 := n_H3; clear n_D0 n_CR n_HR n_HP n_HL n_H1 n_H2 n_H3; clear hb))
  go_ret
  exact ⟨rfl, D0.out⟩
end Go.Proofs.Ythpnppfpmhlkaaa.Sha
