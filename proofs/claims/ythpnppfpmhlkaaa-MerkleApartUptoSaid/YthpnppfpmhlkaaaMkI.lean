/- Chapter 3: the document's Path. -/
import Derived.Test.YthpnppfpmhlkaaaMkH
namespace Go.Proofs.Ythpnppfpmhlkaaa.Sha
open Go.RowKit Go.Proofs.Ythpnppfpmhlkaaa.X Go.Proofs.YthpnppfpmhlkaaaW.PrintWords Go.Proofs.YthpnppfpmhlkaaaW.PrintLast Go.Proofs.YthpnppfpmhlkaaaW.PrintMore
set_option linter.unusedVariables false
set_option linter.unusedSimpArgs false

theorem below_cell' {W W' : World} {a : Addr} {v : Value} (hb : Below W.heap.size W W') (h : W.cell? a = some v) : W'.cell? a = some v := by
  rw [hb.cell (World.block_lt_of_cell? W _ h)]; exact h
theorem chain_pos (rows : List (List UInt8)) : 0 < (chain rows).length := by rw [chain, List.length_cons]; omega
theorem chain_head (rows : List (List UInt8)) : ∃ r, chain rows = rows :: r := ⟨_, by rw [chain]⟩
set_option maxHeartbeats 8000000 in
set_option maxRecDepth 100000 in
theorem rpath_calls (A : Option Addr) (cp : Nat) (xs : List ByteArray) (i : Int) (w : World) (hr : Kd.C Kd.string w A xs.length xs) (hcp : xs.length ≤ cp) (hn : xs.length ≤ 1048576) (hsz : ∀ s ∈ xs, s.size ≤ 140737488355000) :
    Calls Try.prog 18 #[.slice A xs.length cp, .int .i64 i] w fun e w' => ∃ v, e = .returned (.tuple #[v, .int .i64 (pathE xs i)]) ∧ HRow w.heap.size v (pathF xs i) w' ∧ Below w.heap.size w w' := by
  have HR := Aside0.mk hr
  have HSZ := Aside0.mk hsz
  have RN : Aside0 (∀ b W, HRow b (.slice none 0 0) [] W) := ⟨fun b W => hrow_nil b W⟩
  clear hr hsz
  go_enter Try.func18, Try.ntmps18
  by_cases h0 : i < 0
  · have q1 : (i < 0) = True := eq_true h0
    have P1 : Aside0 (pathF xs i = [] ∧ pathE xs i = 1) := ⟨by unfold pathF pathE; rw [if_neg (by omega), if_neg (by omega)]; exact ⟨rfl, rfl⟩⟩
    go_wp2
    refine bodyPost_ret (results_tmp2 rfl _ _ _) rfl ?_
    exact ⟨_, by rw [P1.out.2]; rfl, by rw [P1.out.1]; exact RN.out _ _, Below.refl _ _⟩
  by_cases h1 : (xs.length : Int) ≤ i
  · have q1 : (i < 0) = False := eq_false h0
    have q2 : ((xs.length : Int) ≤ i) = True := eq_true h1
    have P1 : Aside0 (pathF xs i = [] ∧ pathE xs i = 1) := ⟨by unfold pathF pathE; rw [if_neg (by omega), if_neg (by omega)]; exact ⟨rfl, rfl⟩⟩
    go_wp2
    refine bodyPost_ret (results_tmp2 rfl _ _ _) rfl ?_
    exact ⟨_, by rw [P1.out.2]; rfl, by rw [P1.out.1]; exact RN.out _ _, Below.refl _ _⟩
  obtain ⟨j0, rfl⟩ : ∃ j : Nat, i = (j : Int) := ⟨i.toNat, by omega⟩
  have q1 : (((j0 : Nat) : Int) < 0) = False := eq_false h0
  have q2 : ((xs.length : Int) ≤ (j0 : Int)) = False := eq_false h1
  have q3 : (xs.length ≤ j0) = False := eq_false (by omega)
  have hj0 : j0 < xs.length := by omega
  have P1 : Aside0 (pathF xs j0 = pth (tl xs) j0 ∧ pathE xs j0 = 0) := ⟨by unfold pathF pathE; rw [if_pos (by omega), if_pos (by omega)]; exact ⟨rfl, rfl⟩⟩
  have hx1 : 0 < xs.length := by omega
  clear h0 h1
  obtain ⟨n, hnn⟩ : ∃ n, n = (chain (tl xs)).length := ⟨_, rfl⟩
  have hn0 : 0 < n := by rw [hnn]; exact chain_pos _
  have hnb : n ≤ 1048576 := by
    obtain ⟨pre, hp, hq⟩ := chain_last _ (tl xs) (Nat.le_refl _) (by rw [tl_len]; exact hx1)
    rw [hnn, hp, List.length_append, List.length_singleton]
    rw [tl_len] at hq; omega
  have HN := Aside0.mk hnn
  clear hnn
  go_wp2_with (go_at_call 26; go_loud ((with_reducible refine (rows_calls A cp xs _ HR.out hcp hn hx1 HSZ.out).mono ?_); rintro e w2 ⟨v2, rfl, hh, hb⟩; obtain ⟨a2, c2, hv2, hc2, h2⟩ := rows_at hh (by rw [← HN.out]; exact hn0); rw [← HN.out] at hv2 hc2 h2; subst hv2; have H2 := Aside0.mk h2; have D2 := Aside0.mk hb; clear hb hh h2))
  go_loopw [1, 7, 8] (fun v1 v7 v8 W => ∃ (rows pre : List (List UInt8)) (pp : List (List (List UInt8))) (i : Nat), v1 = .int .i64 i ∧ v8 = .int .i64 (pp.length : Int) ∧ 0 < rows.length ∧ rows.length ≤ 1048576 ∧ i < rows.length ∧ Aside0 (pp ++ chain rows = chain (tl xs)) ∧ Aside0 (pre.length + rows.length ≤ 1048576) ∧ Aside0 (HRow w2.heap.size v7 pre W) ∧ Aside0 (pre ++ pth rows i = pth (tl xs) j0) ∧ Aside0 (Below w2.heap.size w2 W)) (fun _ _ v8 _ => n - (intOf v8).toNat)
  case atStart =>
    exact ⟨tl xs, [], [], j0, rfl, rfl, by rw [tl_len]; exact hx1, by rw [tl_len]; exact hn, by rw [tl_len]; exact hj0, ⟨rfl⟩, ⟨by rw [tl_len]; simpa using hn⟩, ⟨RN.out _ _⟩, ⟨rfl⟩, ⟨Below.refl _ _⟩⟩
  case round =>
    clear q1 q2 q3
    obtain ⟨rows, pre, pp, i, rfl, rfl, hr0, hrn, hi, HCC, HPL, HP, HCH, D0⟩ := hrel
    have hcl : n = pp.length + (chain rows).length := by rw [HN.out, ← HCC.out, List.length_append]
    have hget : (chain (tl xs)).getD pp.length [] = rows := by
      obtain ⟨r, hr⟩ := chain_head rows
      rw [← HCC.out, hr, List.getD_eq_getElem?_getD, List.getElem?_append_right (Nat.le_refl _), Nat.sub_self]; rfl
    by_cases hlt : 1 < rows.length
    · have hk : pp.length + 1 < n := by
        have := chain_pos (abv rows)
        rw [chain_more rows hlt, List.length_cons] at hcl
        omega
      have q4 : ((pp.length : Int) < (n : Int) - 1) = True := eq_true (by omega)
      obtain ⟨u, hu1, hu2⟩ := H2.out pp.length (by omega)
      rw [hget] at hu2
      obtain ⟨A3, c3, rfl, hc3, h3⟩ := hrow_read hu2
      obtain ⟨a3, rfl, _⟩ := h3.2 hr0
      have X3 := Aside0.mk (below_cell' D0.out hu1)
      have H3 := Aside0.mk (hread_below h3 D0.out)
      have HAL2 := Aside0.mk (abv_len rows)
      have hxb := sib_bits i (by omega)
      have hsb : sib i ≤ i + 1 := by unfold sib; split <;> omega
      have HTH := Aside0.mk (pth_more rows i hlt)
      have HCN : Aside0 ((pp ++ [rows]) ++ chain (abv rows) = chain (tl xs)) := ⟨by rw [← HCC.out, chain_more rows hlt, List.append_assoc]; rfl⟩
      generalize hsi : sib i = s at hxb hsb HTH
      clear hsi hcl hget hu1 hu2 h3
      have x3 := X3.out
      have hk2 : pp.length < n := by omega
      by_cases hs : s < rows.length
      · have q6 : ((s : Int) < (rows.length : Int)) = True := eq_true (by omega)
        have q7 : (s < rows.length) = True := eq_true hs
        obtain ⟨S, hS⟩ : ∃ S, S = rows.getD s [] := ⟨_, rfl⟩
        have hS32 : S.length = 32 := by rw [hS]; exact hread_len H3.out s hs
        have hat := hread_at H3.out s hs
        rw [← hS] at hat
        have HAT := Aside0.mk hat
        have HTH2 : Aside0 (pth rows i = S :: pth (abv rows) (i / 2)) := ⟨by rw [HTH.out, if_pos hs, ← hS]; rfl⟩
        clear hat hS HTH
        have hpl : Aside0 (pre.length + [S].length ≤ 4398046511000) := ⟨by have := HPL.out; show pre.length + 1 ≤ _; omega⟩
        go_wp2_with (first
          | ((with_reducible refine gate_dst (N := 43) rfl ?_); go_loud (refine wpList_load_hash rfl (.tmp 42) rfl (a3.add (s * 32)) rfl S hS32 HAT.out ?_))
          | ((with_reducible refine gate_dst (N := 44) rfl ?_); go_loud (refine Kd.event_run rfl (exec_build1 (.tmp 43) rfl S hS32 (by rfl)) ?_))
          | ((with_reducible refine gate_dst (N := 45) rfl ?_); go_loud (obtain ⟨v2, w3, hr1, hr2, hr3, hr4, hr5⟩ := append_hrows w2.heap.size _ pre [S] w2 _ ⟨wr.heap.size, 0, none⟩ 1 (hrow_below HP.out (below_alloc (Below.refl _ _) (.cells (brw 32 S) 23))) (below_alloc D0.out (.cells (brw 32 S) 23)) (below_alloc D0.out (.cells (brw 32 S) 23)).size (hread_one hS32 (blk_new wr (.cells (brw 32 S) 23))) hpl.out; refine Kd.event_run rfl (exec_append31 (.tmp 36) (.tmp 44) rfl rfl _ _ rfl rfl hr1) ?_; have HP2 := Aside0.mk hr2; have DD2 := Aside0.mk hr3; clear hr1 hr2 hr3 hr4 hr5)))
        have hal := HAL2.out
        refine ⟨⟨abv rows, pre ++ [S], pp ++ [rows], i / 2, by go_num, by rw [List.length_append, List.length_singleton]; rfl, by omega, by omega, by omega, HCN, ⟨by rw [List.length_append]; have := HPL.out; show pre.length + 1 + _ ≤ _; omega⟩, HP2, ⟨by rw [← HCH.out, HTH2.out, List.append_assoc]; rfl⟩, DD2⟩, ?_⟩
        simp [intOf]; omega
      · have q6 : ((s : Int) < (rows.length : Int)) = False := eq_false (by omega)
        have q7 : (s < rows.length) = False := eq_false hs
        have HTH2 : Aside0 (pth rows i = pth (abv rows) (i / 2)) := ⟨by rw [HTH.out, if_neg hs]; rfl⟩
        clear HTH
        go_wp2
        have hal := HAL2.out
        refine ⟨⟨abv rows, pre, pp ++ [rows], i / 2, by go_num, by rw [List.length_append, List.length_singleton]; rfl, by omega, by omega, by omega, HCN, ⟨by have := HPL.out; omega⟩, HP, ⟨by rw [← HCH.out, HTH2.out]⟩, D0⟩, ?_⟩
        simp [intOf]; omega
    · have hk : n = pp.length + 1 := by rw [hcl, chain_one rows hlt]; rfl
      have q4 : ((pp.length : Int) < (n : Int) - 1) = False := eq_false (by omega)
      have HE : Aside0 (pre = pth (tl xs) j0) := ⟨by rw [← HCH.out, pth_one rows i hlt, List.append_nil]⟩
      clear hcl hget hk
      go_wp2
      refine bodyPost_ret (results_tmp2 rfl _ _ _) rfl ?_
      exact ⟨_, by rw [P1.out.2]; rfl, by rw [P1.out.1, ← HE.out]; exact hrow_lower HP.out D2.out.size, below_then D2.out D2.out.size D0.out⟩
end Go.Proofs.Ythpnppfpmhlkaaa.Sha
