/- Chapter 2: the document's Parse. -/
import Derived.Test.YtcmjpdfkacmogaaShaL
namespace Go.Proofs.Ytcmjpdfkacmogaa.Sha
open Go.RowKit Go.Proofs.Ytcmjpdfkacmogaa.X Go.Proofs.YtcmjpdfkacmogaaW.PrintWords Go.Proofs.YtcmjpdfkacmogaaW.PrintLast Go.Proofs.YtcmjpdfkacmogaaW.PrintMore
set_option linter.unusedVariables false
set_option linter.unusedSimpArgs false

def dpa.T11 : Bool × List (List Nat × List Nat) := (true, [([], []), ([0], [0]), ([], []), ([], []), ([2, 3], [2, 3]), ([1, 4], [1, 4])])
def dpa.B11 : List Nat := [0, 1, 0, 0, 12, 31]
theorem dpa.tab11 : rtab .any (opsOf Try.f17 11) = dpa.T11 := by kernel_rfl
theorem dpa.bits11 : waitsOk dpa.T11.2 dpa.B11 = true := by kernel_rfl
/-- A digit's value, looked for from the front. -/
def vk (c : UInt8) : Nat → Int
  | 0 => -1
  | k + 1 => if hexd k = c then (k : Int) else vk c k
theorem vk_all : (List.range 256).all (fun n => vk (UInt8.ofNat n) 16 == dv (UInt8.ofNat n)) = true := by kernel_rfl
theorem vk_dv (c : UInt8) : vk c 16 = dv c := by
  have h := List.all_eq_true.1 vk_all c.toNat (List.mem_range.2 c.toNat_lt)
  rw [UInt8.ofNat_toNat] at h
  exact eq_of_beq h
theorem run_digit64 (k : Nat) (hk : k < 16) (W : World) : (Instr.index 9 (.string ⟨#[48, 49, 50, 51, 52, 53, 54, 55, 56, 57, 97, 98, 99, 100, 101, 102]⟩) (.int .i64 (k : Int))).run Try.prog W = .ok (.int .u8 (hexd k).toNat) W :=
  run_index_str digs k hk .i64 W _ (digs_at k hk)
theorem add16 (x : UInt8) (d : Int) (h0 : 0 ≤ d) (h1 : d < 16) : (x.toNat : Int) * 16 % 256 + d = ((UInt8.ofNat (x.toNat * 16 % 256 + d.toNat)).toNat : Int) := by
  obtain ⟨n, rfl⟩ := Int.eq_ofNat_of_zero_le h0
  rw [Int.toNat_natCast, UInt8.toNat_ofNat_of_lt' (by show _ < 256; omega)]
  omega
set_option maxHeartbeats 8000000 in
set_option maxRecDepth 100000 in
theorem rparse_calls (l : List UInt8) (w : World) :
    Calls Try.prog 17 #[.string (tx l)] w fun e w' => e = .returned (.tuple #[B32 (parF l).1, .bool (parF l).2]) ∧ Below w.heap.size w w' := by
  have i24 : (Try.prog.info? 24).map (·.size) = some 32 := by kernel_rfl
  have hzz : (brw 32 (List.replicate 32 0)).size = 32 := brw_size 32 _ (by decide)
  have hts := tx_size l
  have B32_eq : ∀ x : List UInt8, x.length = 32 → B32 x = .agg (brw 32 x) := fun x hx => by unfold B32; rw [row_of_bytes x hx]
  go_enter Try.func17, Try.ntmps17
  go_upto_region 2 with (fail)
  change Code.wp _ _ _ _ ((w.alloc (.cells (brw 32 []) 24)).alloc (.cells (brw 32 []) 24))
  have C2 : Aside0 (((w.alloc (.cells (brw 32 []) 24)).alloc (.cells (brw 32 []) 24)).heap[w.heap.size]? = some (.cells (brw 32 (List.replicate 32 0)) 24 (0, 0))) := ⟨blk_below (blk_new w (.cells (brw 32 []) 24)) (below_alloc (Below.refl _ _) _)⟩
  have C4 : Aside0 (((w.alloc (.cells (brw 32 []) 24)).alloc (.cells (brw 32 []) 24)).heap[w.heap.size + 1]? = some (.cells (brw 32 (acc l 0)) 24 (0, 0))) := ⟨alloc_second _ _ _⟩
  have D0 := Aside0.mk (below_alloc (below_alloc (Below.refl w.heap.size w) (.cells (brw 32 []) 24)) (.cells (brw 32 []) 24))
  generalize (w.alloc (.cells (brw 32 []) 24)).alloc (.cells (brw 32 []) 24) = w1 at C2 C4 D0 ⊢
  obtain ⟨g2, hg2⟩ : ∃ g, g = w.heap.size := ⟨_, rfl⟩
  obtain ⟨g4, hg4⟩ : ∃ g, g = w.heap.size + 1 := ⟨_, rfl⟩
  have P2 : (Value.pointer (some ⟨w.heap.size, 0, none⟩)) = .pointer (some ⟨g2, 0, none⟩) := by rw [hg2]
  have P4 : (Value.pointer (some ⟨w.heap.size + 1, 0, none⟩)) = .pointer (some ⟨g4, 0, none⟩) := by rw [hg4]
  rw [P2, P4]
  rw [← hg2] at C2
  rw [← hg4] at C4
  have G2 : Aside0 (w.heap.size ≤ g2) := ⟨by omega⟩
  have G4 : Aside0 (w.heap.size ≤ g4) := ⟨by omega⟩
  have N24 : Aside0 (g2 ≠ g4) := ⟨by omega⟩
  clear P2 P4 hg2 hg4
  by_cases h64 : l.length = 64
  · have q1 : (((tx l).size : Int) != 64) = false := bne_eq_false_iff_eq.mpr (by omega)
    have q2 : (((tx l).size : Int) = 64) = True := eq_true (by omega)
    go_wp2
    go_loopw [5] (fun v W => ∃ i : Nat, i ≤ 64 ∧ v = .int .i64 i ∧ Aside0 ((l.take i).all okd = true) ∧ Aside0 (W.heap[g2]? = some (.cells (brw 32 (List.replicate 32 0)) 24 (0, 0))) ∧ Aside0 (W.heap[g4]? = some (.cells (brw 32 (acc l i)) 24 (0, 0))) ∧ Aside0 (Below w.heap.size w W)) (fun v _ => 64 - (intOf v).toNat)
    case atStart => exact ⟨0, Nat.zero_le _, rfl, ⟨rfl⟩, C2, C4, D0⟩
    case round =>
      clear C2 C4 D0
      obtain ⟨i, hi, rfl, HA, C2, C4, D0⟩ := hrel
      by_cases hlt : i < 64
      · have q3 : ((i : Int) < 64) = True := eq_true (by omega)
        have q5 : (i < (tx l).size) = True := eq_true (by omega)
        obtain ⟨c, hc⟩ : ∃ c, c = l.getD i 0 := ⟨_, rfl⟩
        have hcv : (tx l)[i]'(by omega) = c := by
          rw [hc, List.getD_eq_getElem?_getD, List.getElem?_eq_getElem (by omega)]; rfl
        have HT : Aside0 ((l.take (i + 1)).all okd = ((l.take i).all okd && okd c)) := ⟨by
          rw [List.take_succ_eq_append_getElem (by omega), List.all_append, hc, List.getD_eq_getElem?_getD, List.getElem?_eq_getElem (by omega)]; simp⟩
        have HM : Aside0 (c ∈ l) := ⟨by
          rw [hc, List.getD_eq_getElem?_getD, List.getElem?_eq_getElem (by omega)]; exact List.getElem_mem _⟩
        have HC := Aside0.mk hc
        have hd16 := dv_lt c
        clear hc
        go_wp2
        go_loopw [6, 7] (fun v k W => ∃ n : Nat, n ≤ 16 ∧ k = .int .i64 n ∧ v = .int .i64 (vk c n) ∧ Aside0 (W.heap[g2]? = some (.cells (brw 32 (List.replicate 32 0)) 24 (0, 0))) ∧ Aside0 (W.heap[g4]? = some (.cells (brw 32 (acc l i)) 24 (0, 0))) ∧ Aside0 (Below w.heap.size w W)) (fun _ k _ => 16 - (intOf k).toNat)
        case atStart => exact ⟨0, Nat.zero_le _, rfl, rfl, C2, C4, D0⟩
        case round =>
          clear C2 C4 D0
          obtain ⟨n, hn, rfl, rfl, C2, C4, D0⟩ := hrel
          by_cases hn16 : n < 16
          · have q6 : ((n : Int) < 16) = True := eq_true (by omega)
            have hdg := run_digit64 n hn16
            obtain ⟨v0, hv0⟩ : ∃ v, v = vk c n := ⟨_, rfl⟩
            have HV : Aside0 (vk c (n + 1) = if hexd n = c then (n : Int) else v0) := ⟨by rw [hv0]; rfl⟩
            rw [← hv0]
            clear hv0
            obtain ⟨h, hh⟩ : ∃ h, h = hexd n := ⟨_, rfl⟩
            rw [← hh] at hdg HV
            clear hh
            go_upto_region 11 with (fail)
            refine start_ (n := 6) (S := fun _ => True) (ds := []) #[false, false, false, false, false, false] (by kernel_rfl) rfl rfl trivial (fun hHeld => ?_); refine with_tabW dpa.tab11 dpa.bits11 (fun HT_ HW_ => ?_)
            have n_C2 := Aside0.mk (blk_drew C2.out)
            have n_C4 := Aside0.mk (blk_drew C4.out)
            have n_D0 := Aside0.mk (below_drew1 D0.out)
            clear C2 C4 D0
            have C2 := n_C2
            have C4 := n_C4
            have D0 := n_D0
            clear n_C2 n_C4 n_D0
            generalize World.drew _ = wR at C2 C4 D0 hHeld ⊢
            refine pure_ (i := 0) (N := some 20) (v := ?_) (a' := ?_) #[true, false, false, false, false, false] rfl rfl (any_of HT_.out (by kernel_rfl)) (fun _ _ _ h => h) (Or.inl ⟨by rfl, ?_⟩) ?_ ?_
            rotate_left
            · intro w'
              go_simp
              with_reducible rfl
            rotate_left
            · simp only [Act.put, List.setIfInBounds_toArray, List.set_cons_zero, List.set_cons_succ, i64_w, i32_w]
              rfl
            refine pure_ (i := 1) (N := some 21) (v := ?_) (a' := ?_) #[true, true, false, false, false, false] rfl rfl (any_of HT_.out (by kernel_rfl)) (fun _ _ _ h => h) (Or.inl ⟨by rfl, ?_⟩) ?_ ?_
            rotate_left
            · intro w'
              go_simp
              with_reducible rfl
            rotate_left
            · simp only [Act.put, List.setIfInBounds_toArray, List.set_cons_zero, List.set_cons_succ, i64_w, i32_w]
              rfl
            refine pure_ (i := 2) (N := some 22) (v := ?_) (a' := ?_) #[true, true, true, false, false, false] rfl rfl (any_of HT_.out (by kernel_rfl)) (fun _ _ _ h => h) (Or.inl ⟨by rfl, ?_⟩) ?_ ?_
            rotate_left
            · intro w'
              go_simp
              with_reducible rfl
            rotate_left
            · simp only [Act.put, List.setIfInBounds_toArray, List.set_cons_zero, List.set_cons_succ, i64_w, i32_w]
              rfl
            refine pure_ (i := 3) (N := some 23) (v := ?_) (a' := ?_) #[true, true, true, true, false, false] rfl rfl (any_of HT_.out (by kernel_rfl)) (fun _ _ _ h => h) (Or.inl ⟨by rfl, ?_⟩) ?_ ?_
            rotate_left
            · intro w'
              go_simp
              with_reducible rfl
            rotate_left
            · simp only [Act.put, List.setIfInBounds_toArray, List.set_cons_zero, List.set_cons_succ, i64_w, i32_w]
              rfl
            refine pure_ (i := 4) (N := some 24) (v := ?_) (a' := ?_) #[true, true, true, true, true, false] rfl rfl (any_of HT_.out (by kernel_rfl)) (fun _ _ _ h => h) (Or.inl ⟨by rfl, ?_⟩) ?_ ?_
            rotate_left
            · intro w'
              go_simp
              with_reducible rfl
            rotate_left
            · simp only [Act.put, List.setIfInBounds_toArray, List.set_cons_zero, List.set_cons_succ, i64_w, i32_w]
              rfl
            refine pure_ (i := 5) (N := some 25) (v := ?_) (a' := ?_) #[true, true, true, true, true, true] rfl rfl (any_of HT_.out (by kernel_rfl)) (fun _ _ _ h => h) (Or.inl ⟨by rfl, ?_⟩) ?_ ?_
            rotate_left
            · intro w'
              go_simp
              with_reducible rfl
            rotate_left
            · simp only [Act.put, List.setIfInBounds_toArray, List.set_cons_zero, List.set_cons_succ, i64_w, i32_w]
              rfl
            refine done_ (done_of HT_.out (by kernel_rfl)) ?_
            by_cases hq : h = c
            · have q7 : ((h.toNat : Int) == (c.toNat : Int)) = true := by rw [hq]; simp
              have q8 : ((h.toNat : Int) = (c.toNat : Int)) = True := eq_true (by rw [hq])
              have HV2 : Aside0 (vk c (n + 1) = (n : Int)) := ⟨by rw [HV.out, if_pos hq]⟩
              clear hq
              go_wp2
              go_roundw
              case rel => exact ⟨n + 1, by omega, by go_num, by rw [HV2.out], C2, C4, D0⟩
              case measure => simp [intOf]; omega
            · have hne : (h.toNat : Int) ≠ (c.toNat : Int) := fun e => hq (UInt8.toNat_inj.1 (by omega))
              have q7 : ((h.toNat : Int) == (c.toNat : Int)) = false := beq_eq_false_iff_ne.mpr hne
              have q8 : ((h.toNat : Int) = (c.toNat : Int)) = False := eq_false hne
              have HV2 : Aside0 (vk c (n + 1) = v0) := ⟨by rw [HV.out, if_neg hq]⟩
              clear hq hne
              go_wp2
              go_roundw
              case rel => exact ⟨n + 1, by omega, by go_num, by rw [HV2.out], C2, C4, D0⟩
              case measure => simp [intOf]; omega
          · obtain rfl : n = 16 := by omega
            have q6 : (((16 : Nat) : Int) < 16) = False := eq_false (by omega)
            rw [vk_dv]
            obtain ⟨m, hm⟩ : ∃ m, m = i / 2 := ⟨_, rfl⟩
            have hm2 : (i : Int) / 2 = (m : Int) := by omega
            have hm32 : m < 32 := by omega
            have HMM := Aside0.mk hm
            clear hm
            obtain ⟨x, hxx⟩ : ∃ x, x = (acc l i).getD m 0 := ⟨_, rfl⟩
            have hz : wr.cell? ⟨g4, m, none⟩ = some (.int .u8 x.toNat) := (blk_cell C4.out m).trans (by rw [hxx]; exact brw_at 32 _ m (by rw [acc_len]; exact hm32))
            have hf := blk_frozen C4.out m
            have HX := Aside0.mk hxx
            clear hxx
            obtain ⟨d, hd⟩ : ∃ d, d = dv c := ⟨_, rfl⟩
            rw [← hd] at hd16 ⊢
            by_cases h0 : 0 ≤ d
            · have qd : (d < 0) = False := eq_false (by omega)
              have HOR := Aside0.mk (add16 x d h0 hd16)
              have HD := Aside0.mk hd
              clear hd
              go_wp2
              refine ⟨⟨i + 1, by omega, by go_num, ⟨by rw [HT.out, HA.out]; unfold okd; simp; exact HD.out ▸ h0⟩, ⟨blk_far C2.out (p := ⟨g4, m, none⟩) N24.out _⟩, ⟨(blk_put C4.out m _ rfl).trans (congrArg some ?_)⟩, ⟨below_set' D0.out G4.out⟩⟩, by simp [intOf]; omega⟩
              rw [HOR.out, brw_put _ m _ (acc_len l i) hm32, HX.out, HD.out, HC.out, HMM.out]
              rfl
            · have qd : (d < 0) = True := eq_true (by omega)
              have HP : Aside0 (parF l = (List.replicate 32 0, false)) := ⟨by
                unfold parF
                rw [if_neg (fun h => by
                  have h2 := List.all_eq_true.1 h.2 c HM.out
                  have := of_decide_eq_true h2
                  omega)]⟩
              clear hd
              go_wp2_with ((with_reducible refine gate_store rfl ?_); refine wpList_store_row rfl 24 (.tmp 2) (.tmp 29) rfl g2 (brw 32 (List.replicate 32 0)) rfl rfl 24 _ C2.out (by rw [hzz]; exact i24) (by rw [hzz]) (brw_one _ _) ?_)
              refine bodyPost_ret (results_par _ _ g2 (brw 32 (List.replicate 32 0)) false Try.f17 rfl rfl rfl (setRow_heap _ g2 _ _ 24 _ C2.out) (by rw [hzz]; exact i24)) rfl ?_
              exact ⟨by rw [HP.out, B32_eq _ (by decide)], below_setRow D0.out G2.out _⟩
      · obtain rfl : i = 64 := by omega
        have q3 : (((64 : Nat) : Int) < 64) = False := eq_false (by omega)
        have HP : Aside0 (parF l = (acc l 64, true)) := ⟨by
          unfold parF
          rw [if_pos ⟨h64, by have h := HA.out; rwa [List.take_of_length_le (by omega)] at h⟩]⟩
        have hza : (brw 32 (acc l 64)).size = 32 := brw_size 32 _ (by rw [acc_len]; exact Nat.le_refl _)
        go_wp2_with (first
          | ((with_reducible refine gate_dst (N := 41) rfl ?_); refine wpList_load_row rfl 24 (.tmp 4) rfl g4 rfl 24 (brw 32 (acc l 64)) (0, 0) _ C4.out Try.underlying24 rfl (by rw [hza]; exact i24) ?_)
          | ((with_reducible refine gate_store rfl ?_); refine wpList_store_row rfl 24 (.tmp 2) (.tmp 41) rfl g2 (brw 32 (acc l 64)) rfl rfl 24 _ C2.out (by rw [hza]; exact i24) (by rw [hza, hzz]) (brw_one _ _) ?_))
        refine bodyPost_ret (results_par _ _ g2 (brw 32 (acc l 64)) true Try.f17 rfl rfl rfl (setRow_heap _ g2 _ _ 24 _ C2.out) (by rw [hza]; exact i24)) rfl ?_
        exact ⟨by rw [HP.out, B32_eq _ (acc_len l 64)], below_setRow D0.out G2.out _⟩
  · have q1 : (((tx l).size : Int) != 64) = true := bne_iff_ne.mpr (by omega)
    have q2 : (((tx l).size : Int) = 64) = False := eq_false (by omega)
    have HP : Aside0 (parF l = (List.replicate 32 0, false)) := ⟨by unfold parF; rw [if_neg (fun h => h64 h.1)]⟩
    go_wp2_with (first
      | ((with_reducible refine gate_dst (N := 11) rfl ?_); refine wpList_load_row rfl 24 (.tmp 4) rfl g4 rfl 24 (brw 32 (List.replicate 32 0)) (0, 0) _ C4.out Try.underlying24 rfl (by rw [hzz]; exact i24) ?_)
      | ((with_reducible refine gate_store rfl ?_); refine wpList_store_row rfl 24 (.tmp 2) (.tmp 11) rfl g2 (brw 32 (List.replicate 32 0)) rfl rfl 24 _ C2.out (by rw [hzz]; exact i24) (by rw [hzz]) (brw_one _ _) ?_))
    refine bodyPost_ret (results_par _ _ g2 (brw 32 (List.replicate 32 0)) false Try.f17 rfl rfl rfl (setRow_heap _ g2 _ _ 24 _ C2.out) (by rw [hzz]; exact i24)) rfl ?_
    exact ⟨by rw [HP.out, B32_eq _ (by decide)], below_setRow D0.out G2.out _⟩
end Go.Proofs.Ytcmjpdfkacmogaa.Sha
