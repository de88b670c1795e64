/- Chapter 3: the document's Rows and Root. -/
import Derived.Test.YthpnppfpmhlkaaaMkE
namespace Go.Proofs.Ythpnppfpmhlkaaa.Sha
open Go.RowKit Go.Proofs.Ythpnppfpmhlkaaa.X Go.Proofs.YthpnppfpmhlkaaaW.PrintWords Go.Proofs.YthpnppfpmhlkaaaW.PrintLast Go.Proofs.YthpnppfpmhlkaaaW.PrintMore
set_option linter.unusedVariables false
set_option linter.unusedSimpArgs false

theorem info31' : (Try.prog.info? 31).map (fun i => (i.zero, i.size, i.bytes)) = some (some (.slice none 0 0), 1, 24) := by kernel_rfl
/-- A list of rows of hashes of one's own. -/
def RowsOf (base : Nat) (v : Value) (Rs : List (List (List UInt8))) (W : World) : Prop :=
  ∃ vs : List Value, W.ownsRow base 31 1 v Rs.length vs ∧ ∀ j, j < Rs.length → HRow base (vs.getD j undef) (Rs.getD j []) W ∧ (vs.getD j undef).oneCell' = true
theorem rows_below {base : Nat} {v : Value} {Rs : List (List (List UInt8))} {W W' : World} (h : RowsOf base v Rs W) (hb : Below W.heap.size W W') : RowsOf base v Rs W' := by
  obtain ⟨vs, ⟨h0, h1⟩, h2⟩ := h
  refine ⟨vs, ⟨h0, ?_⟩, fun j hj => ⟨hrow_below (h2 j hj).1 hb, (h2 j hj).2⟩⟩
  rcases h1 with ⟨h1, h3⟩ | ⟨g, cap, cur, h1, h3, h4, h5⟩
  · exact .inl ⟨h1, h3⟩
  · exact .inr ⟨g, cap, cur, h1, h3, blk_below h4 hb, h5⟩
theorem hrow_lower {base base' : Nat} {v : Value} {rows : List (List UInt8)} {W : World} (h : HRow base v rows W) (hb : base' ≤ base) : HRow base' v rows W := by
  obtain ⟨⟨h0, h1⟩, h2⟩ := h
  refine ⟨⟨h0, ?_⟩, h2⟩
  rcases h1 with ⟨h1, h3⟩ | ⟨g, cap, cur, h1, h3, h4⟩
  · exact .inl ⟨h1, h3⟩
  · exact .inr ⟨g, cap, cur, h1, Nat.le_trans hb h3, h4⟩
theorem hrow_grown {base : Nat} {v u : Value} {rows : List (List UInt8)} {W W' : World} {n : Nat} {vs : List Value} (h : HRow base v rows W) (ho : W.ownsRow base 31 1 u n vs) (hg : W.grownBy W' u.ownBlock) : HRow base v rows W' := by
  obtain ⟨⟨h0, h1⟩, h2⟩ := h
  refine ⟨⟨h0, ?_⟩, h2⟩
  rcases h1 with ⟨h1, h3⟩ | ⟨g, cap, cur, h1, h3, h4, h5⟩
  · exact .inl ⟨h1, h3⟩
  · refine .inr ⟨g, cap, cur, h1, h3, blk_grown h4 hg (fun e => ?_), h5⟩
    obtain ⟨cs, hc⟩ := own_typed ho g e.symm
    rw [hc] at h4
    injection h4 with h4
    injection h4 with _ h4
    cases h4
/-- append(rows, row): one row more. -/
theorem append_rows (base : Nat) (v x : Value) (Rs : List (List (List UInt8))) (R : List (List UInt8)) (w0 W : World) (gb c : Nat) (hr : RowsOf base v Rs W) (hx : HRow base x R W) (hx1 : x.oneCell' = true) (hB : Below base w0 W) (hbase : base ≤ W.heap.size) (hu : W.heap[gb]? = some (.cells #[x] 31 (0, 0))) (hl : Rs.length ≤ 1099511627776) :
    ∃ v' W', (Builtin.append_ #[40, 40] 40 #[v, .slice (some ⟨gb, 0, none⟩) 1 c]).run Try.prog W = .ok v' W' ∧ RowsOf base v' (Rs ++ [R]) W' ∧ HRow base x R W' ∧ Below base w0 W' := by
  obtain ⟨vs, ho, hv⟩ := hr
  obtain ⟨i0, hi, hzz⟩ := Option.map_eq_some_iff.1 info31'
  simp only [Prod.mk.injEq] at hzz
  obtain ⟨hz0, hz1, hz2⟩ := hzz
  obtain ⟨v', W', h1, h2, h3, _⟩ := run_append_own_wide (P := Try.prog) W base 40 40 31 i0 (.slice none 0 0) 1 24 Try.underlying40 hi hz0 hz1 hz2 rfl (by omega) v Rs.length vs ho ⟨gb, 0, none⟩ 1 c [x] rfl (fun j u hj => by
    cases j with
    | zero =>
      simp at hj; subst hj
      have ha : (⟨gb, 0, none⟩ : Addr).add 0 = ⟨gb, 0, none⟩ := by unfold Addr.add; rfl
      rw [ha, blk_cell hu]; rfl
    | succ j => simp at hj) (fun u hu => by rw [List.mem_singleton.1 hu]; exact hx1) (by simp only [maxLen]; omega) (by omega) hbase
  have hlv : vs.length = Rs.length := by have := ho.1; omega
  have hown : ∀ k, v.ownBlock = some k → base ≤ k := fun k hk => by
    rcases ho.2 with ⟨rfl, _⟩ | ⟨g, cap, cur, rfl, hg, _⟩
    · simp [Value.ownBlock] at hk
    · have : g = k := by simpa [Value.ownBlock] using hk
      omega
  refine ⟨v', W', h1, ⟨vs ++ [x], by rw [List.length_append]; exact h2, fun j hj => ?_⟩, hrow_grown hx ho h3, hB.grown h3 hbase hown⟩
  by_cases hjl : j < Rs.length
  · have e1 : (vs ++ [x]).getD j undef = vs.getD j undef := by rw [List.getD_eq_getElem?_getD, List.getD_eq_getElem?_getD, List.getElem?_append_left (by omega)]
    have e2 : (Rs ++ [R]).getD j [] = Rs.getD j [] := by rw [List.getD_eq_getElem?_getD, List.getD_eq_getElem?_getD, List.getElem?_append_left hjl]
    rw [e1, e2]
    exact ⟨hrow_grown (hv j hjl).1 ho h3, (hv j hjl).2⟩
  · have hje : j = Rs.length := by rw [List.length_append, List.length_singleton] at hj; omega
    have e1 : (vs ++ [x]).getD j undef = x := by rw [List.getD_eq_getElem?_getD, List.getElem?_append_right (by omega), show j - vs.length = 0 by omega]; rfl
    have e2 : (Rs ++ [R]).getD j [] = R := by rw [List.getD_eq_getElem?_getD, List.getElem?_append_right (by omega), show j - Rs.length = 0 by omega]; rfl
    rw [e1, e2]
    exact ⟨hrow_grown hx ho h3, hx1⟩
theorem exec_append40 {o : Oper} {f : Operand → Value} {W W' : World} {v' : Value} (s x : Operand) (ho : o.op = .call { callee := .builtin .append, args := #[s, x], argTypes := #[40, 40] }) (hty : o.type = 40) (v u : Value) (hs : f s = v) (hx : f x = u)
    (hr : (Builtin.append_ #[40, 40] 40 #[v, u]).run Try.prog W = .ok v' W') : (execOp f o).run Try.prog W = .ok (.value v') W' := by
  unfold execOp
  simp only [ho, hty, resolve, invoke, builtin, Sem.run_bind, Sem.run_pure, Result.andThen_ok, List.map_toArray, List.map_cons, List.map_nil, hs, hx, hr]
/-- All rows, from one on. -/
def chain (rows : List (List UInt8)) : List (List (List UInt8)) := rows :: (if 1 < rows.length then chain (abv rows) else [])
termination_by rows.length
decreasing_by rw [abv_len]; omega
theorem chain_more (rows : List (List UInt8)) (h : 1 < rows.length) : chain rows = rows :: chain (abv rows) := by rw [chain, if_pos h]
theorem chain_one (rows : List (List UInt8)) (h : ¬ 1 < rows.length) : chain rows = [rows] := by rw [chain, if_neg h]
theorem tl_snoc (xs : List ByteArray) (i : Nat) (h : i < xs.length) : tl (xs.take (i + 1)) = tl (xs.take i) ++ [leafF (xs.getD i ByteArray.empty).data.toList] := by
  unfold tl
  rw [List.take_succ_eq_append_getElem h, List.map_append, List.getD_eq_getElem?_getD, List.getElem?_eq_getElem h]; rfl
set_option maxHeartbeats 8000000 in
set_option maxRecDepth 100000 in
theorem rows_calls (A : Option Addr) (cp : Nat) (xs : List ByteArray) (w : World) (hr : Kd.C Kd.string w A xs.length xs) (hcp : xs.length ≤ cp) (hn : xs.length ≤ 1048576) (h0 : 0 < xs.length) (hsz : ∀ s ∈ xs, s.size ≤ 140737488355000) :
    Calls Try.prog 26 #[.slice A xs.length cp] w fun e w' => ∃ v, e = .returned v ∧ RowsOf w.heap.size v (chain (tl xs)) w' ∧ Below w.heap.size w w' := by
  have HR := Aside0.mk hr
  have HSZ := Aside0.mk hsz
  have RN : Aside0 (HRow w.heap.size (.slice none 0 0) (tl (xs.take 0)) w) := ⟨hrow_nil _ _⟩
  clear hr hsz
  go_enter Try.func26, Try.ntmps26
  go_wp2
  go_loopw [3, 4] (fun v k W => ∃ i : Nat, i ≤ xs.length ∧ k = .int .i64 i ∧ Aside0 (HRow w.heap.size v (tl (xs.take i)) W) ∧ Aside0 (Below w.heap.size w W)) (fun _ k _ => xs.length - (intOf k).toNat)
  case atStart => exact ⟨0, Nat.zero_le _, rfl, RN, ⟨Below.refl _ _⟩⟩
  case round =>
    clear RN
    obtain ⟨i, hi, rfl, HH, D0⟩ := hrel
    by_cases hlt : i < xs.length
    · have q1 : ((i : Int) < (xs.length : Int)) = True := eq_true (by omega)
      have b1 : (i < xs.length) = True := eq_true hlt
      obtain ⟨ad, rfl, x0⟩ := strs_at (Kd.C_below HR.out D0.out) i hlt
      have hss : (xs.getD i ByteArray.empty).size ≤ 140737488355000 := by
        rw [List.getD_eq_getElem?_getD, List.getElem?_eq_getElem hlt]
        exact HSZ.out _ (List.getElem_mem hlt)
      have htl := tl_snoc xs i hlt
      generalize xs.getD i ByteArray.empty = sx at x0 hss htl
      obtain ⟨S, hS⟩ : ∃ S, S = leafF sx.data.toList := ⟨_, rfl⟩
      have hS32 : S.length = 32 := by rw [hS]; exact leafF_len _
      have HC : ∀ W : World, Calls Try.prog 13 #[.string sx] W fun e w' => e = .returned (.agg (brw 32 S)) ∧ Below W.heap.size W w' := fun W => by
        have := rleaf_calls sx.data.toList W (by rw [Array.length_toList]; exact hss)
        rw [tx_toList, ← hS, B32_brw S hS32] at this
        exact this
      rw [← hS] at htl
      have HTL := Aside0.mk htl
      obtain ⟨pre, hpre⟩ : ∃ p, p = tl (xs.take i) := ⟨_, rfl⟩
      have hpl : Aside0 (pre.length ≤ 1099511627776) := ⟨by rw [hpre, tl_len, List.length_take]; omega⟩
      rw [← hpre] at HH HTL
      clear hS hss htl hpre
      go_wp2_with (first
        | (go_at_call 13; (with_reducible refine (HC _).mono ?_); rintro e w2 ⟨rfl, hb⟩; have n_HH := Aside0.mk (hrow_below HH.out hb); have n_D0 := Aside0.mk (below_then D0.out D0.out.size hb); clear HH D0 hb; have HH := n_HH; have D0 := n_D0; clear n_HH n_D0)
        | ((with_reducible refine gate_dst (N := 18) rfl ?_); go_loud (refine Kd.event_run rfl (exec_build1 (.tmp 17) rfl S hS32 (by rfl)) ?_))
        | ((with_reducible refine gate_dst (N := 19) rfl ?_); obtain ⟨v2, w3, hr1, hr2, hr3⟩ := append_hrow w.heap.size _ pre S hS32 w _ w2.heap.size 1 (hrow_below HH.out (below_alloc (Below.refl _ _) (.cells (brw 32 S) 23))) (below_alloc D0.out (.cells (brw 32 S) 23)) (below_alloc D0.out (.cells (brw 32 S) 23)).size (blk_new w2 (.cells (brw 32 S) 23)) hpl.out; refine Kd.event_run rfl (exec_append31 (.tmp 12) (.tmp 18) rfl rfl _ _ rfl rfl hr1) ?_; have HH2 := Aside0.mk hr2; have D2 := Aside0.mk hr3; clear hr1 hr2 hr3))
      refine ⟨⟨i + 1, by omega, by go_num, ⟨by rw [HTL.out]; exact HH2.out⟩, D2⟩, by simp [intOf]; omega⟩
    · have q1 : ((i : Int) < (xs.length : Int)) = False := eq_false (by omega)
      have b1 : (i < xs.length) = False := eq_false hlt
      have hie : i = xs.length := by omega
      have HT : Aside0 (tl (xs.take i) = tl xs) := ⟨by rw [List.take_of_length_le (by omega)]⟩
      rw [HT.out] at HH
      clear hie hlt hi HT
      obtain ⟨A3, c3, hv3, hc3, hr3⟩ := hrow_read HH.out
      subst hv3
      have htl0 : 0 < (tl xs).length := by rw [tl_len]; exact h0
      have htln : (tl xs).length ≤ 1048576 := by rw [tl_len]; exact hn
      have RS : Aside0 (RowsOf w.heap.size (.slice (some ⟨wr.heap.size, 0, none⟩) 1 1) ([] ++ [tl xs]) (wr.alloc (.cells #[.slice A3 (tl xs).length c3] 31))) := ⟨⟨[.slice A3 (tl xs).length c3], ⟨rfl, .inr ⟨wr.heap.size, 1, _, rfl, D0.out.size, blk_new wr _, Nat.le_refl _, by simp only [maxLen]; omega, rfl, rfl⟩⟩, fun j hj => by
        have hj0 : j = 0 := by simpa using hj
        subst hj0
        exact ⟨hrow_below HH.out (below_alloc (Below.refl _ _) _), rfl⟩⟩⟩
      have n_HH := Aside0.mk (hrow_below HH.out (below_alloc (Below.refl _ _) (.cells #[.slice A3 (tl xs).length c3] 31)))
      have n_D0 := Aside0.mk (below_alloc D0.out (.cells #[.slice A3 (tl xs).length c3] 31))
      clear HH D0 hr3
      have HH := n_HH
      have D0 := n_D0
      clear n_HH n_D0
      go_wp2
      go_loopw [3, 5] (fun v3 v5 W => ∃ (pre : List (List (List UInt8))) (rows : List (List UInt8)) (B : Option Addr) (c : Nat), v3 = .slice B rows.length c ∧ 0 < rows.length ∧ rows.length ≤ c ∧ pre.length + rows.length ≤ 1048576 ∧ Aside0 (HRow w.heap.size v3 rows W) ∧ Aside0 (RowsOf w.heap.size v5 (pre ++ [rows]) W) ∧ Aside0 (pre ++ chain rows = chain (tl xs)) ∧ Aside0 (Below w.heap.size w W)) (fun v3 _ _ => slLen v3)
      case atStart => exact ⟨[], tl xs, A3, c3, rfl, htl0, hc3, by simpa using htln, HH, RS, ⟨rfl⟩, D0⟩
      case round =>
        clear HH D0 RS hc3
        obtain ⟨pre, rows, B, c, rfl, hr0, hrc, hpn, HH, RS, HCH, D0⟩ := hrel
        obtain ⟨B', c', hv', _, hrd⟩ := hrow_read HH.out
        obtain ⟨rfl, rfl⟩ : B = B' ∧ c = c' := by injection hv' with e1 _ e3; exact ⟨e1, e3⟩
        obtain ⟨ad, rfl, _⟩ := hrd.2 hr0
        have HRD := Aside0.mk hrd
        clear hrd hv'
        by_cases hlt : 1 < rows.length
        · have q3 : ((1 : Int) < (rows.length : Int)) = True := eq_true (by omega)
          have HAL : Aside0 ((pre ++ [rows]) ++ chain (abv rows) = chain (tl xs)) := ⟨by rw [← HCH.out, chain_more rows hlt, List.append_assoc]; rfl⟩
          have HAL2 := Aside0.mk (abv_len rows)
          have hpl : Aside0 ((pre ++ [rows]).length ≤ 1099511627776) := ⟨by rw [List.length_append, List.length_singleton]; omega⟩
          go_wp2_with (first
            | (go_at_call 34; (with_reducible refine (rabove_calls ad c rows _ (by omega) hrc HRD.out hr0).mono ?_); rintro e w3 ⟨v3, rfl, hh, hb⟩; obtain ⟨A4, c4, hv4, hc4, hr4⟩ := hrow_read hh; subst hv4; have H3 := Aside0.mk (hrow_lower hh D0.out.size); have n_RS := Aside0.mk (rows_below RS.out hb); have n_D0 := Aside0.mk (below_then D0.out D0.out.size hb); clear RS D0 hb hh hr4 HH HRD; have RS := n_RS; have D0 := n_D0; clear n_RS n_D0)
            | ((with_reducible refine gate_dst (N := 30) rfl ?_); obtain ⟨v5, w5, k1, k2, k3, k4⟩ := append_rows w.heap.size _ (.slice A4 (abv rows).length c4) (pre ++ [rows]) (abv rows) w _ w3.heap.size 1 (rows_below RS.out (below_alloc (Below.refl _ _) (.cells #[.slice A4 (abv rows).length c4] 31))) (hrow_below H3.out (below_alloc (Below.refl _ _) (.cells #[.slice A4 (abv rows).length c4] 31))) rfl (below_alloc D0.out (.cells #[.slice A4 (abv rows).length c4] 31)) (below_alloc D0.out (.cells #[.slice A4 (abv rows).length c4] 31)).size (blk_new w3 (.cells #[.slice A4 (abv rows).length c4] 31)) hpl.out; refine Kd.event_run rfl (exec_append40 (.tmp 27) (.tmp 29) rfl rfl _ _ rfl rfl k1) ?_; have R5 := Aside0.mk k2; have H5 := Aside0.mk k3; have D5 := Aside0.mk k4; clear k1 k2 k3 k4))
          have hal := HAL2.out
          refine ⟨⟨pre ++ [rows], abv rows, A4, c4, rfl, by omega, hc4, by rw [List.length_append, List.length_singleton]; omega, H5, R5, HAL, D5⟩, ?_⟩
          show (abv rows).length < rows.length
          omega
        · have q3 : ((1 : Int) < (rows.length : Int)) = False := eq_false (by omega)
          have HE : Aside0 (pre ++ [rows] = chain (tl xs)) := ⟨by rw [← HCH.out, chain_one rows hlt]⟩
          go_wp2
          go_ret
          exact ⟨_, rfl, by rw [← HE.out]; exact RS.out, D0.out⟩
end Go.Proofs.Ythpnppfpmhlkaaa.Sha
