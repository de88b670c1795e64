/- Chapter 3: merkle.Root. -/
import Derived.Test.YthpnppfpmhlkaaaMkD
namespace Go.Proofs.Ythpnppfpmhlkaaa.Sha
open Go.RowKit Go.Proofs.Ythpnppfpmhlkaaa.X Go.Proofs.YthpnppfpmhlkaaaW.PrintWords Go.Proofs.YthpnppfpmhlkaaaW.PrintLast Go.Proofs.YthpnppfpmhlkaaaW.PrintMore
set_option linter.unusedVariables false
set_option linter.unusedSimpArgs false

theorem abv_32 (rows : List (List UInt8)) (h : ∀ x ∈ rows, x.length = 32) : ∀ x ∈ abv rows, x.length = 32 := by
  intro x hx
  unfold abv prs at hx
  rcases List.mem_append.1 hx with h1 | h1
  · rw [List.mem_map] at h1
    obtain ⟨j, _, rfl⟩ := h1
    exact nodeF_len _ _
  · split at h1
    · rename_i ho
      rw [List.mem_singleton.1 h1, List.getD_eq_getElem?_getD, List.getElem?_eq_getElem (by omega)]
      exact h _ (List.getElem_mem _)
    · cases h1
/-- The hash at the top of a row. -/
def up (rows : List (List UInt8)) : List UInt8 := if 1 < rows.length then up (abv rows) else rows.getD 0 []
termination_by rows.length
decreasing_by rw [abv_len]; omega
theorem up_more (rows : List (List UInt8)) (h : 1 < rows.length) : up rows = up (abv rows) := by rw [up, if_pos h]
theorem up_one (rows : List (List UInt8)) (h : ¬ 1 < rows.length) : up rows = rows.getD 0 [] := by rw [up, if_neg h]
/-- The root of texts. -/
def rootF (xs : List ByteArray) : List UInt8 := if xs.length = 0 then sumF [2] else up (tl xs)
set_option maxHeartbeats 8000000 in
set_option maxRecDepth 100000 in
theorem root_calls (A : Option Addr) (cp : Nat) (xs : List ByteArray) (w : World) (hr : Kd.C Kd.string w A xs.length xs) (hcp : xs.length ≤ cp) (hn : xs.length ≤ 1099511627776) (hsz : ∀ s ∈ xs, s.size ≤ 140737488355000) :
    Calls Try.prog 9 #[.slice A xs.length cp] w fun e w' => e = .returned (B32 (rootF xs)) ∧ (rootF xs).length = 32 ∧ Below w.heap.size w w' := by
  have i23 : (Try.prog.info? 23).map (·.size) = some 32 := by kernel_rfl
  have hz0 : (brw 32 []).size = 32 := rfl
  have HR := Aside0.mk hr
  have HSZ := Aside0.mk hsz
  clear hr hsz
  obtain ⟨S2, hS2⟩ : ∃ S, S = sumF [2] := ⟨_, rfl⟩
  have hS2l : S2.length = 32 := by rw [hS2]; exact sumF_len _
  have HC2 : ∀ W : World, Calls Try.prog 22 #[.string ⟨#[2]⟩] W fun e w' => e = .returned (.agg (brw 32 S2)) ∧ Below W.heap.size W w' := fun W => by rw [← B32_brw S2 hS2l, hS2]; exact sum_calls [2] W (by decide)
  have hzS2 : (brw 32 S2).size = 32 := brw_size 32 S2 (by omega)
  have HS2 := Aside0.mk hS2
  clear hS2
  go_enter Try.func9, Try.ntmps9
  go_upto_region 1 with (fail)
  change Code.wp _ _ _ _ (w.alloc (.cells (brw 32 []) 23))
  have C2 : Aside0 ((w.alloc (.cells (brw 32 []) 23)).heap[w.heap.size]? = some (.cells (brw 32 []) 23 (0, 0))) := ⟨blk_new _ _⟩
  have D0 := Aside0.mk (below_alloc (Below.refl w.heap.size w) (.cells (brw 32 []) 23))
  generalize w.alloc (.cells (brw 32 []) 23) = w1 at C2 D0 ⊢
  have S1 := Aside0.mk (blk_lt C2.out)
  by_cases hx0 : xs.length = 0
  · have q1 : ((xs.length : Int) = 0) = True := eq_true (by omega)
    have q2 : ((xs.length : Int) == 0) = true := beq_iff_eq.mpr (by omega)
    have HX0 := Aside0.mk hx0
    clear hx0
    go_wp2_with (first
      | (go_at_call 22; (with_reducible refine (HC2 _).mono ?_); rintro e w2 ⟨rfl, hb⟩; have n_C2 := Aside0.mk (blk_below C2.out hb); have n_D0 := Aside0.mk (below_then D0.out D0.out.size hb); clear C2 D0 hb; have C2 := n_C2; have D0 := n_D0; clear n_C2 n_D0)
      | ((with_reducible refine gate_store rfl ?_); refine wpList_store_row rfl 23 (.tmp 2) (.tmp 7) rfl w.heap.size (brw 32 S2) rfl rfl 23 (brw 32 []) C2.out (by rw [hzS2]; exact i23) (by rw [hzS2, hz0]) (brw_one _ _) ?_))
    refine bodyPost_ret (results_cell_row (fn := Try.f9) rfl _ _ w.heap.size 23 (brw 32 S2) (0, 0) _ rfl (setRow_heap _ w.heap.size _ _ 23 _ C2.out) Try.underlying23 rfl (by rw [hzS2]; exact i23)) rfl ?_
    have e : rootF xs = S2 := by unfold rootF; rw [if_pos HX0.out, HS2.out]
    exact ⟨by rw [e, B32_brw S2 hS2l], by rw [e]; exact hS2l, below_setRow D0.out (Nat.le_refl _) _⟩
  · have q1 : ((xs.length : Int) = 0) = False := eq_false (by omega)
    have q2 : ((xs.length : Int) == 0) = false := beq_eq_false_iff_ne.mpr (by omega)
    have hx1 : 0 < xs.length := by omega
    have HX0 := Aside0.mk hx0
    clear hx0
    go_wp2_with (go_at_call 23; (with_reducible refine (leaves_calls A cp xs _ (Kd.C_below HR.out D0.out) hcp hn hx1 HSZ.out).mono ?_); rintro e w2 ⟨rfl, hh, hb⟩; have HH := Aside0.mk hh; have n_C2 := Aside0.mk (blk_below C2.out hb); have n_D0 := Aside0.mk (below_then D0.out D0.out.size hb); clear C2 D0 hb hh; have C2 := n_C2; have D0 := n_D0; clear n_C2 n_D0)
    go_loopw [3] (fun v W => ∃ (rows : List (List UInt8)) (B : Option Addr) (c : Nat), v = .slice B rows.length c ∧ 0 < rows.length ∧ rows.length ≤ c ∧ rows.length ≤ 1099511627776 ∧ Aside0 (HRead B rows W) ∧ Aside0 (up rows = up (tl xs)) ∧ Aside0 (W.heap[w.heap.size]? = some (.cells (brw 32 []) 23 (0, 0))) ∧ Aside0 (Below w.heap.size w W)) (fun v _ => slLen v)
    case atStart =>
      refine ⟨tl xs, _, xs.length, by rw [tl_len], by rw [tl_len]; exact hx1, by rw [tl_len]; exact Nat.le_refl _, by rw [tl_len]; exact hn, HH, ⟨rfl⟩, C2, D0⟩
    case round =>
      clear HH C2 D0
      obtain ⟨rows, B, c, rfl, hr0, hrc, hrn, HH, HU, C2, D0⟩ := hrel
      obtain ⟨ad, rfl, _⟩ := HH.out.2 hr0
      by_cases hlt : 1 < rows.length
      · have q3 : ((1 : Int) < (rows.length : Int)) = True := eq_true (by omega)
        have HAL : Aside0 (up (abv rows) = up (tl xs)) := ⟨by rw [← up_more rows hlt]; exact HU.out⟩
        have hal := abv_len rows
        go_wp2_with (go_at_call 24; (with_reducible refine (above_calls ad c rows _ hrn hrc HH.out hr0).mono ?_); rintro e w3 ⟨v3, rfl, hh, hb⟩; have H3 := Aside0.mk hh; have n_C2 := Aside0.mk (blk_below C2.out hb); have n_D0 := Aside0.mk (below_then D0.out D0.out.size hb); clear C2 D0 hb hh; have C2 := n_C2; have D0 := n_D0; clear n_C2 n_D0)
        obtain ⟨A3, c3, hv3, hc3, h3⟩ := hrow_read H3.out
        refine ⟨⟨abv rows, A3, c3, hv3, by omega, hc3, by omega, ⟨h3⟩, HAL, C2, D0⟩, ?_⟩
        rw [hv3]
        show (abv rows).length < rows.length
        omega
      · have q3 : ((1 : Int) < (rows.length : Int)) = False := eq_false (by omega)
        obtain ⟨S, hS⟩ : ∃ S, S = rows.getD 0 [] := ⟨_, rfl⟩
        have hS32 : S.length = 32 := by rw [hS]; exact hread_len HH.out 0 hr0
        have hat := hread_at HH.out 0 hr0
        rw [← hS, Nat.zero_mul] at hat
        have ha0 : ad.add 0 = ad := by unfold Addr.add; cases ad; simp
        rw [ha0] at hat
        have HAT := Aside0.mk hat
        have hzS : (brw 32 S).size = 32 := brw_size 32 S (by omega)
        have HRO : Aside0 (rootF xs = S) := ⟨by unfold rootF; rw [if_neg HX0.out, ← HU.out, up_one rows hlt, hS]⟩
        have b0 : (0 < rows.length) = True := eq_true hr0
        have b1 : ((0 : Int) < (rows.length : Int)) = True := eq_true (by omega)
        clear hat hS ha0
        go_wp2_with (first
          | ((with_reducible refine gate_dst (N := 17) rfl ?_); go_loud (refine wpList_load_hash rfl (.tmp 16) rfl ad rfl S hS32 HAT.out ?_))
          | ((with_reducible refine gate_store rfl ?_); refine wpList_store_row rfl 23 (.tmp 2) (.tmp 17) rfl w.heap.size (brw 32 S) rfl rfl 23 (brw 32 []) C2.out (by rw [hzS]; exact i23) (by rw [hzS, hz0]) (brw_one _ _) ?_))
        refine bodyPost_ret (results_cell_row (fn := Try.f9) rfl _ _ w.heap.size 23 (brw 32 S) (0, 0) _ rfl (setRow_heap _ w.heap.size _ _ 23 _ C2.out) Try.underlying23 rfl (by rw [hzS]; exact i23)) rfl ?_
        exact ⟨by rw [HRO.out, B32_brw S hS32], by rw [HRO.out]; exact hS32, below_setRow D0.out (Nat.le_refl _) _⟩
end Go.Proofs.Ythpnppfpmhlkaaa.Sha
