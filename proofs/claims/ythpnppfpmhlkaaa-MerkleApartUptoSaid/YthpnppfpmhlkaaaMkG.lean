/- Chapter 3: the document's Root. -/
import Derived.Test.YthpnppfpmhlkaaaMkF
namespace Go.Proofs.Ythpnppfpmhlkaaa.Sha
open Go.RowKit Go.Proofs.Ythpnppfpmhlkaaa.X Go.Proofs.YthpnppfpmhlkaaaW.PrintWords Go.Proofs.YthpnppfpmhlkaaaW.PrintLast Go.Proofs.YthpnppfpmhlkaaaW.PrintMore
set_option linter.unusedVariables false
set_option linter.unusedSimpArgs false

/-- A row of rows is read at one place. -/
theorem rows_at {base : Nat} {v : Value} {Rs : List (List (List UInt8))} {W : World} (h : RowsOf base v Rs W) (h0 : 0 < Rs.length) : ∃ ad cap, v = .slice (some ad) Rs.length cap ∧ Rs.length ≤ cap ∧ ∀ j, j < Rs.length → ∃ u, W.cell? (ad.add j) = some u ∧ HRow base u (Rs.getD j []) W := by
  obtain ⟨vs, ⟨ho, h1⟩, h2⟩ := h
  rcases h1 with ⟨rfl, h3⟩ | ⟨g, cap, cur, rfl, hg, hh, hcap, hmax, hsz, htk⟩
  · omega
  · refine ⟨_, cap, rfl, hcap, fun j hj => ⟨vs.getD j undef, ?_, (h2 j hj).1⟩⟩
    have hadd : (⟨g, 0, none⟩ : Addr).add j = ⟨g, j, none⟩ := by unfold Addr.add; split <;> simp_all
    have h3 : (cur.toList.take (Rs.length * 1))[j]? = vs[j]? := by rw [htk]
    rw [List.getElem?_take, if_pos (by omega)] at h3
    rw [hadd, blk_cell hh, ← Array.getElem?_toList, h3, List.getD_eq_getElem?_getD, List.getElem?_eq_getElem (by omega)]; rfl
theorem up_32 : ∀ (n : Nat) (rows : List (List UInt8)), rows.length ≤ n → 0 < rows.length → (∀ x ∈ rows, x.length = 32) → (up rows).length = 32
  | 0, rows, h, h0, _ => by omega
  | n + 1, rows, h, h0, h2 => by
    by_cases h1 : 1 < rows.length
    · rw [up_more rows h1]
      have ha := abv_len rows
      exact up_32 n (abv rows) (by omega) (by omega) (abv_32 rows h2)
    · rw [up_one rows h1, List.getD_eq_getElem?_getD, List.getElem?_eq_getElem h0]
      exact h2 _ (List.getElem_mem h0)
/-- The last row is the top alone. -/
theorem chain_last : ∀ (n : Nat) (rows : List (List UInt8)), rows.length ≤ n → 0 < rows.length → ∃ pre, chain rows = pre ++ [[up rows]] ∧ pre.length < rows.length
  | 0, rows, h, h0 => by omega
  | n + 1, rows, h, h0 => by
    by_cases h1 : 1 < rows.length
    · have ha := abv_len rows
      obtain ⟨pre, hp, hq⟩ := chain_last n (abv rows) (by omega) (by omega)
      refine ⟨rows :: pre, ?_, by rw [List.length_cons]; omega⟩
      rw [chain_more rows h1, hp, up_more rows h1]; rfl
    · refine ⟨[], ?_, h0⟩
      rw [chain_one rows h1, up_one rows h1]
      match rows, h0, h1 with
      | [x], _, _ => rfl
      | _ :: _ :: _, _, h1 => exact absurd (by simp) h1
set_option maxHeartbeats 8000000 in
set_option maxRecDepth 100000 in
theorem rroot_calls (A : Option Addr) (cp : Nat) (xs : List ByteArray) (w : World) (hr : Kd.C Kd.string w A xs.length xs) (hcp : xs.length ≤ cp) (hn : xs.length ≤ 1048576) (hsz : ∀ s ∈ xs, s.size ≤ 140737488355000) :
    Calls Try.prog 10 #[.slice A xs.length cp] w fun e w' => e = .returned (B32 (rootF xs)) ∧ Below w.heap.size w w' := by
  have i23 : (Try.prog.info? 23).map (·.size) = some 32 := by kernel_rfl
  have hz0 : (brw 32 []).size = 32 := rfl
  have HR := Aside0.mk hr
  have HSZ := Aside0.mk hsz
  clear hr hsz
  obtain ⟨S2, hS2⟩ : ∃ S, S = sumF [2] := ⟨_, rfl⟩
  have hS2l : S2.length = 32 := by rw [hS2]; exact sumF_len _
  have HC2 : ∀ W : World, Calls Try.prog 25 #[.string ⟨#[2]⟩] W fun e w' => e = .returned (.agg (brw 32 S2)) ∧ Below W.heap.size W w' := fun W => by rw [← B32_brw S2 hS2l, hS2]; exact rsum_calls [2] W (by decide)
  have hzS2 : (brw 32 S2).size = 32 := brw_size 32 S2 (by omega)
  have HS2 := Aside0.mk hS2
  clear hS2
  go_enter Try.func10, Try.ntmps10
  go_upto_region 1 with (fail)
  change Code.wp _ _ _ _ (w.alloc (.cells (brw 32 []) 23))
  have C2 : Aside0 ((w.alloc (.cells (brw 32 []) 23)).heap[w.heap.size]? = some (.cells (brw 32 []) 23 (0, 0))) := ⟨blk_new _ _⟩
  have D0 := Aside0.mk (below_alloc (Below.refl w.heap.size w) (.cells (brw 32 []) 23))
  generalize w.alloc (.cells (brw 32 []) 23) = w1 at C2 D0 ⊢
  by_cases hx0 : xs.length = 0
  · have q1 : ((xs.length : Int) = 0) = True := eq_true (by omega)
    have q2 : ((xs.length : Int) == 0) = true := beq_iff_eq.mpr (by omega)
    have HX0 := Aside0.mk hx0
    clear hx0
    go_wp2_with (first
      | (go_at_call 25; (with_reducible refine (HC2 _).mono ?_); rintro e w2 ⟨rfl, hb⟩; have n_C2 := Aside0.mk (blk_below C2.out hb); have n_D0 := Aside0.mk (below_then D0.out D0.out.size hb); clear C2 D0 hb; have C2 := n_C2; have D0 := n_D0; clear n_C2 n_D0)
      | ((with_reducible refine gate_store rfl ?_); refine wpList_store_row rfl 23 (.tmp 2) (.tmp 7) rfl w.heap.size (brw 32 S2) rfl rfl 23 (brw 32 []) C2.out (by rw [hzS2]; exact i23) (by rw [hzS2, hz0]) (brw_one _ _) ?_))
    refine bodyPost_ret (results_cell_row (fn := Try.f10) rfl _ _ w.heap.size 23 (brw 32 S2) (0, 0) _ rfl (setRow_heap _ w.heap.size _ _ 23 _ C2.out) Try.underlying23 rfl (by rw [hzS2]; exact i23)) rfl ?_
    have e : rootF xs = S2 := by unfold rootF; rw [if_pos HX0.out, HS2.out]
    exact ⟨by rw [e, B32_brw S2 hS2l], below_setRow D0.out (Nat.le_refl _) _⟩
  · have q1 : ((xs.length : Int) = 0) = False := eq_false (by omega)
    have q2 : ((xs.length : Int) == 0) = false := beq_eq_false_iff_ne.mpr (by omega)
    have hx1 : 0 < xs.length := by omega
    obtain ⟨S, hS⟩ : ∃ S, S = rootF xs := ⟨_, rfl⟩
    have hSu : S = up (tl xs) := by rw [hS]; unfold rootF; rw [if_neg hx0]
    have hS32 : S.length = 32 := by rw [hSu]; exact up_32 _ _ (Nat.le_refl _) (by rw [tl_len]; exact hx1) (tl_32 xs)
    have hzS : (brw 32 S).size = 32 := brw_size 32 S (by omega)
    obtain ⟨pre, hpre, hpl⟩ := chain_last _ (tl xs) (Nat.le_refl _) (by rw [tl_len]; exact hx1)
    have hpl2 : pre.length < 1048576 := by rw [tl_len] at hpl; omega
    clear hpl
    have HCH := Aside0.mk hpre
    have HSU := Aside0.mk hSu
    have HS := Aside0.mk hS
    clear hx0 hpre hSu hS
    go_wp2_with (first
      | (go_at_call 26; go_loud ((with_reducible refine (rows_calls A cp xs _ (Kd.C_below HR.out D0.out) hcp hn hx1 HSZ.out).mono ?_); rintro e w2 ⟨v2, rfl, hh, hb⟩; obtain ⟨a2, c2, hv2, hc2, h2⟩ := rows_at hh (by rw [HCH.out]; simp); have n_C2 := Aside0.mk (blk_below C2.out hb); have n_D0 := Aside0.mk (below_then D0.out D0.out.size hb); clear C2 D0 hb; have C2 := n_C2; have D0 := n_D0; clear n_C2 n_D0; rw [HCH.out, List.length_append, List.length_singleton] at hv2 hc2 h2; subst hv2; obtain ⟨u, x2, hu⟩ := h2 pre.length (by omega); obtain ⟨A3, c3, hv3, hc3, hr3⟩ := hrow_read hu; rw [List.getD_eq_getElem?_getD, List.getElem?_append_right (Nat.le_refl _), Nat.sub_self] at hv3 hr3; change u = .slice A3 1 c3 at hv3; subst hv3; obtain ⟨a3, hA3, _⟩ := hr3.2 Nat.zero_lt_one; subst hA3; have HAT := Aside0.mk (hread_at hr3 0 Nat.zero_lt_one); rw [Nat.zero_mul, show (a3.add 0) = a3 from (by unfold Addr.add; cases a3; simp)] at HAT; change Aside0 (∀ i, i < 32 → _ = some (Value.int .u8 ((up (tl xs)).getD i 0).toNat)) at HAT; rw [← HSU.out] at HAT; clear hr3 hu h2 hc3))
      | ((with_reducible refine gate_dst (N := 17) rfl ?_); go_loud (refine wpList_load_hash rfl (.tmp 16) rfl a3 rfl S hS32 HAT.out ?_))
      | ((with_reducible refine gate_store rfl ?_); refine wpList_store_row rfl 23 (.tmp 2) (.tmp 17) rfl w.heap.size (brw 32 S) rfl rfl 23 (brw 32 []) C2.out (by rw [hzS]; exact i23) (by rw [hzS, hz0]) (brw_one _ _) ?_))
    refine bodyPost_ret (results_cell_row (fn := Try.f10) rfl _ _ w.heap.size 23 (brw 32 S) (0, 0) _ rfl (setRow_heap _ w.heap.size _ _ 23 _ C2.out) Try.underlying23 rfl (by rw [hzS]; exact i23)) rfl ?_
    exact ⟨by rw [← HS.out, B32_brw S hS32], below_setRow D0.out (Nat.le_refl _) _⟩
end Go.Proofs.Ythpnppfpmhlkaaa.Sha
