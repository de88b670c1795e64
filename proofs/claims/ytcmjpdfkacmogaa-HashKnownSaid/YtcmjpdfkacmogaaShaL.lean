/- Chapter 2: hash.Parse. -/
import Derived.Test.YtcmjpdfkacmogaaShaK
namespace Go.Proofs.Ytcmjpdfkacmogaa.Sha
open Go.RowKit Go.Proofs.Ytcmjpdfkacmogaa.X Go.Proofs.YtcmjpdfkacmogaaW.PrintWords Go.Proofs.YtcmjpdfkacmogaaW.PrintLast Go.Proofs.YtcmjpdfkacmogaaW.PrintMore
set_option linter.unusedVariables false
set_option linter.unusedSimpArgs false

/-- A digit's value; below 0: none. -/
def dv (c : UInt8) : Int := Lib.indexByte dig c
theorem dv_all : (List.range 256).all (fun n => decide (Lib.indexByte dig (UInt8.ofNat n) < 16)) = true := by kernel_rfl
theorem dv_lt (c : UInt8) : dv c < 16 := by
  have h := List.all_eq_true.1 dv_all c.toNat (List.mem_range.2 c.toNat_lt)
  rw [UInt8.ofNat_toNat] at h
  exact of_decide_eq_true h
def okd (c : UInt8) : Bool := decide (0 ≤ dv c)
/-- The hash of the first i digits. -/
def acc (s : List UInt8) : Nat → List UInt8
  | 0 => List.replicate 32 0
  | i + 1 => (acc s i).set (i / 2) (UInt8.ofNat (((acc s i).getD (i / 2) 0).toNat * 16 % 256 + (dv (s.getD i 0)).toNat))
theorem acc_len (s : List UInt8) : ∀ i, (acc s i).length = 32
  | 0 => List.length_replicate
  | i + 1 => by unfold acc; rw [List.length_set]; exact acc_len s i
/-- What Parse tells. -/
def parF (s : List UInt8) : List UInt8 × Bool := if s.length = 64 ∧ s.all okd = true then (acc s 64, true) else (List.replicate 32 0, false)
theorem brw_zero : brw 32 [] = brw 32 (List.replicate 32 0) := by rfl
theorem brw_put (l : List UInt8) (m : Nat) (x : UInt8) (hl : l.length = 32) (hm : m < 32) : (brw 32 l).setIfInBounds m (.int .u8 x.toNat) = brw 32 (l.set m x) := by
  rw [brw_full 32 l hl, brw_full 32 _ (by rw [List.length_set]; exact hl), List.setIfInBounds_toArray, List.map_set]
theorem or16 (x : UInt8) (d : Int) (h0 : 0 ≤ d) (h1 : d < 16) : Go.bits .or .u8 ((x.toNat : Int) * 16 % 256) d = ((UInt8.ofNat (x.toNat * 16 % 256 + d.toNat)).toNat : Int) := by
  obtain ⟨n, rfl⟩ := Int.eq_ofNat_of_zero_le h0
  have hn : n < 16 := by omega
  rw [Int.toNat_natCast]
  have w : ∀ n : Int, IntKind.u8.wrap n = n % 256 := fun _ => rfl
  have l : Go.bits .or .u8 ((x.toNat : Int) * 16 % 256) (n : Int) = IntKind.u8.wrap ((BitVec.ofInt 8 ((x.toNat : Int) * 16 % 256) ||| BitVec.ofInt 8 (n : Int)).toNat : Int) := rfl
  have e1 : (BitVec.ofInt 8 ((x.toNat : Int) * 16 % 256)).toNat = 2 ^ 4 * (x.toNat % 16) := by
    rw [BitVec.toNat_ofInt]
    show (((x.toNat : Int) * 16 % 256) % 256).toNat = 16 * (x.toNat % 16)
    omega
  have e2 : (BitVec.ofInt 8 (n : Int)).toNat = n := by
    rw [BitVec.toNat_ofInt]
    show ((n : Int) % 256).toNat = n
    omega
  rw [l, BitVec.toNat_or, e1, e2, ← Nat.two_pow_add_eq_or_of_lt hn, w, UInt8.toNat_ofNat_of_lt' (by show _ < 256; omega)]
  omega
theorem results_par (tmps : Array Value) (w : World) (g : Nat) (cs : Array Value) (b : Bool) (fn : Func) (hfn : fn.results = #[.cell 2 24, .tmp 3]) (hp : tmps.getD 2 undef = .pointer (some ⟨g, 0, none⟩)) (ht : tmps.getD 3 undef = .bool b) (hg : w.heap[g]? = some (.cells cs 24 (0, 0)))
    (hi : (Try.prog.info? 24).map (·.size) = some cs.size) : (results fn tmps).run Try.prog w = .ok (.tuple #[.agg cs, .bool b]) w := by
  have hp' : tmps[2]?.getD undef = .pointer (some ⟨g, 0, none⟩) := by simpa using hp
  have ht' : tmps[3]?.getD undef = .bool b := by simpa using ht
  simp [results, hfn, hp', ht', asAddr, run_loadVar_row w g 24 24 cs (0, 0) _ hg Try.underlying24 rfl hi]
theorem ib_calls (c : UInt8) (w : World) : Calls Try.prog 26 #[.string ⟨#[48, 49, 50, 51, 52, 53, 54, 55, 56, 57, 97, 98, 99, 100, 101, 102]⟩, .int .u8 (c.toNat : Int)] w fun e w' => e = .returned (.int .i64 (dv c)) ∧ w' = w := by
  refine (Try.strings_IndexByte digs (c.toNat : Int) w).mono ?_
  rintro e w' ⟨rfl, rfl⟩
  refine ⟨?_, rfl⟩
  have h : ((c.toNat : Int).toNat).toUInt8 = c := by rw [Int.toNat_natCast]; exact UInt8.ofNat_toNat
  rw [h]; rfl
set_option maxHeartbeats 8000000 in
set_option maxRecDepth 100000 in
theorem parse_calls (l : List UInt8) (w : World) :
    Calls Try.prog 16 #[.string (tx l)] w fun e w' => e = .returned (.tuple #[B32 (parF l).1, .bool (parF l).2]) ∧ Below w.heap.size w w' := by
  have i24 : (Try.prog.info? 24).map (·.size) = some 32 := by kernel_rfl
  have hzz : (brw 32 (List.replicate 32 0)).size = 32 := brw_size 32 _ (by decide)
  have hts := tx_size l
  have B32_eq : ∀ x : List UInt8, x.length = 32 → B32 x = .agg (brw 32 x) := fun x hx => by unfold B32; rw [row_of_bytes x hx]
  go_enter Try.func16, Try.ntmps16
  go_upto_region 2 with (fail)
  change Code.wp _ _ _ _ ((w.alloc (.cells (brw 32 []) 24)).alloc (.cells (brw 32 []) 24))
  have C2 : Aside0 (((w.alloc (.cells (brw 32 []) 24)).alloc (.cells (brw 32 []) 24)).heap[w.heap.size]? = some (.cells (brw 32 (List.replicate 32 0)) 24 (0, 0))) := ⟨blk_below (blk_new w (.cells (brw 32 []) 24)) (below_alloc (Below.refl _ _) _)⟩
  have C4 : Aside0 (((w.alloc (.cells (brw 32 []) 24)).alloc (.cells (brw 32 []) 24)).heap[w.heap.size + 1]? = some (.cells (brw 32 (acc l 0)) 24 (0, 0))) := ⟨alloc_second _ _ _⟩
  have D0 := Aside0.mk (below_alloc (below_alloc (Below.refl w.heap.size w) (.cells (brw 32 []) 24)) (.cells (brw 32 []) 24))
  generalize (w.alloc (.cells (brw 32 []) 24)).alloc (.cells (brw 32 []) 24) = w1 at C2 C4 D0 ⊢
  obtain ⟨g2, hg2⟩ : ∃ g, g = w.heap.size := ⟨_, rfl⟩
  obtain ⟨g4, hg4⟩ : ∃ g, g = w.heap.size + 1 := ⟨_, rfl⟩
  have P2 : (Value.pointer (some ⟨w.heap.size, 0, none⟩)) = .pointer (some ⟨g2, 0, none⟩) := by rw [hg2]
  have P4 : (Value.pointer (some ⟨w.heap.size + 1, 0, none⟩)) = .pointer (some ⟨g4, 0, none⟩) := by rw [hg4]
  rw [P2, P4]
  rw [← hg2] at C2
  rw [← hg4] at C4
  have G2 : Aside0 (w.heap.size ≤ g2) := ⟨by omega⟩
  have G4 : Aside0 (w.heap.size ≤ g4) := ⟨by omega⟩
  have N24 : Aside0 (g2 ≠ g4) := ⟨by omega⟩
  clear P2 P4 hg2 hg4
  by_cases h64 : l.length = 64
  · have q1 : (((tx l).size : Int) != 64) = false := bne_eq_false_iff_eq.mpr (by omega)
    have q2 : (((tx l).size : Int) = 64) = True := eq_true (by omega)
    go_wp2
    go_loopw [13] (fun v W => ∃ i : Nat, i ≤ 64 ∧ v = .int .i64 i ∧ Aside0 ((l.take i).all okd = true) ∧ Aside0 (W.heap[g2]? = some (.cells (brw 32 (List.replicate 32 0)) 24 (0, 0))) ∧ Aside0 (W.heap[g4]? = some (.cells (brw 32 (acc l i)) 24 (0, 0))) ∧ Aside0 (Below w.heap.size w W)) (fun v _ => 64 - (intOf v).toNat)
    case atStart => exact ⟨0, Nat.zero_le _, rfl, ⟨rfl⟩, C2, C4, D0⟩
    case round =>
      clear C2 C4 D0
      obtain ⟨i, hi, rfl, HA, C2, C4, D0⟩ := hrel
      by_cases hlt : i < 64
      · have q3 : ((i : Int) < 64) = True := eq_true (by omega)
        have q5 : (i < (tx l).size) = True := eq_true (by omega)
        have q4 : (((tx l).size : Int) ≤ (i : Int)) = False := eq_false (by omega)
        obtain ⟨c, hc⟩ : ∃ c, c = l.getD i 0 := ⟨_, rfl⟩
        have hcv : (tx l)[i]'(by omega) = c := by
          rw [hc, List.getD_eq_getElem?_getD, List.getElem?_eq_getElem (by omega)]; rfl
        have HT : Aside0 ((l.take (i + 1)).all okd = ((l.take i).all okd && okd c)) := ⟨by
          rw [List.take_succ_eq_append_getElem (by omega), List.all_append, hc, List.getD_eq_getElem?_getD, List.getElem?_eq_getElem (by omega)]; simp⟩
        have HM : Aside0 (c ∈ l) := ⟨by
          rw [hc, List.getD_eq_getElem?_getD, List.getElem?_eq_getElem (by omega)]; exact List.getElem_mem _⟩
        have HC := Aside0.mk hc
        have hd16 := dv_lt c
        clear hc
        obtain ⟨m, hm⟩ : ∃ m, m = i / 2 := ⟨_, rfl⟩
        have hm2 : (i : Int) / 2 = (m : Int) := by omega
        have hm32 : m < 32 := by omega
        have HMM := Aside0.mk hm
        clear hm
        obtain ⟨x, hxx⟩ : ∃ x, x = (acc l i).getD m 0 := ⟨_, rfl⟩
        have hz : wr.cell? ⟨g4, m, none⟩ = some (.int .u8 x.toNat) := (blk_cell C4.out m).trans (by rw [hxx]; exact brw_at 32 _ m (by rw [acc_len]; exact hm32))
        have hf := blk_frozen C4.out m
        have HX := Aside0.mk hxx
        clear hxx
        obtain ⟨d, hd⟩ : ∃ d, d = dv c := ⟨_, rfl⟩
        by_cases h0 : 0 ≤ d
        · have qd : (d < 0) = False := eq_false (by omega)
          have hor := or16 x d h0 (by omega)
          have HD := Aside0.mk hd
          go_wp2_with (go_at_call 26; (with_reducible refine (ib_calls c _).mono ?_); rintro e w2 ⟨rfl, rfl⟩; rw [← HD.out])
          refine ⟨⟨i + 1, by omega, by go_num, ⟨by rw [HT.out, HA.out]; unfold okd; simp; exact HD.out ▸ h0⟩, ⟨blk_far C2.out (p := ⟨g4, m, none⟩) N24.out _⟩, ⟨(blk_put C4.out m _ rfl).trans (congrArg some ?_)⟩, ⟨below_set' D0.out G4.out⟩⟩, by simp [intOf]; omega⟩
          rw [← HD.out, hor, brw_put _ m _ (acc_len l i) hm32, HX.out, HD.out, HC.out, HMM.out]
          rfl
        · have qd : (dv c < 0) = True := eq_true (by omega)
          have HP : Aside0 (parF l = (List.replicate 32 0, false)) := ⟨by
            unfold parF
            rw [if_neg (fun h => by
              have h2 := List.all_eq_true.1 h.2 c HM.out
              have := of_decide_eq_true h2
              omega)]⟩
          clear hd
          go_wp2_with (first
            | (go_at_call 26; (with_reducible refine (ib_calls c _).mono ?_); rintro e w2 ⟨rfl, rfl⟩)
            | ((with_reducible refine gate_store rfl ?_); refine wpList_store_row rfl 24 (.tmp 2) (.tmp 22) rfl g2 (brw 32 (List.replicate 32 0)) rfl rfl 24 _ C2.out (by rw [hzz]; exact i24) (by rw [hzz]) (brw_one _ _) ?_))
          refine bodyPost_ret (results_par _ _ g2 (brw 32 (List.replicate 32 0)) false Try.f16 rfl rfl rfl (setRow_heap _ g2 _ _ 24 _ C2.out) (by rw [hzz]; exact i24)) rfl ?_
          exact ⟨by rw [HP.out, B32_eq _ (by decide)], below_setRow D0.out G2.out _⟩
      · obtain rfl : i = 64 := by omega
        have q3 : (((64 : Nat) : Int) < 64) = False := eq_false (by omega)
        have HP : Aside0 (parF l = (acc l 64, true)) := ⟨by
          unfold parF
          rw [if_pos ⟨h64, by have h := HA.out; rwa [List.take_of_length_le (by omega)] at h⟩]⟩
        have hza : (brw 32 (acc l 64)).size = 32 := brw_size 32 _ (by rw [acc_len]; exact Nat.le_refl _)
        go_wp2_with (first
          | ((with_reducible refine gate_dst (N := 35) rfl ?_); refine wpList_load_row rfl 24 (.tmp 4) rfl g4 rfl 24 (brw 32 (acc l 64)) (0, 0) _ C4.out Try.underlying24 rfl (by rw [hza]; exact i24) ?_)
          | ((with_reducible refine gate_store rfl ?_); refine wpList_store_row rfl 24 (.tmp 2) (.tmp 35) rfl g2 (brw 32 (acc l 64)) rfl rfl 24 _ C2.out (by rw [hza]; exact i24) (by rw [hza, hzz]) (brw_one _ _) ?_))
        refine bodyPost_ret (results_par _ _ g2 (brw 32 (acc l 64)) true Try.f16 rfl rfl rfl (setRow_heap _ g2 _ _ 24 _ C2.out) (by rw [hza]; exact i24)) rfl ?_
        exact ⟨by rw [HP.out, B32_eq _ (acc_len l 64)], below_setRow D0.out G2.out _⟩
  · have q1 : (((tx l).size : Int) != 64) = true := bne_iff_ne.mpr (by omega)
    have q2 : (((tx l).size : Int) = 64) = False := eq_false (by omega)
    have HP : Aside0 (parF l = (List.replicate 32 0, false)) := ⟨by unfold parF; rw [if_neg (fun h => h64 h.1)]⟩
    go_wp2_with (first
      | ((with_reducible refine gate_dst (N := 10) rfl ?_); refine wpList_load_row rfl 24 (.tmp 4) rfl g4 rfl 24 (brw 32 (List.replicate 32 0)) (0, 0) _ C4.out Try.underlying24 rfl (by rw [hzz]; exact i24) ?_)
      | ((with_reducible refine gate_store rfl ?_); refine wpList_store_row rfl 24 (.tmp 2) (.tmp 10) rfl g2 (brw 32 (List.replicate 32 0)) rfl rfl 24 _ C2.out (by rw [hzz]; exact i24) (by rw [hzz]) (brw_one _ _) ?_))
    refine bodyPost_ret (results_par _ _ g2 (brw 32 (List.replicate 32 0)) false Try.f16 rfl rfl rfl (setRow_heap _ g2 _ _ 24 _ C2.out) (by rw [hzz]; exact i24)) rfl ?_
    exact ⟨by rw [HP.out, B32_eq _ (by decide)], below_setRow D0.out G2.out _⟩
end Go.Proofs.Ytcmjpdfkacmogaa.Sha
