/- Chapter 3: merkle.Path. -/
import Derived.Test.YthpnppfpmhlkaaaMkG
import Derived.Maps.AppendAt
namespace Go.Proofs.Ythpnppfpmhlkaaa.Sha
open Go.RowKit Go.Proofs.Ythpnppfpmhlkaaa.X Go.Proofs.YthpnppfpmhlkaaaW.PrintWords Go.Proofs.YthpnppfpmhlkaaaW.PrintLast Go.Proofs.YthpnppfpmhlkaaaW.PrintMore
set_option linter.unusedVariables false
set_option linter.unusedSimpArgs false

theorem hrow_lt {base : Nat} {v : Value} {rows : List (List UInt8)} {W : World} (h : HRow base v rows W) (k : Nat) (hk : v.ownBlock = some k) : k < W.heap.size := by
  obtain ⟨cs, hc⟩ := own_typed h.1 k hk
  exact blk_lt hc
theorem hread_grown {ad : Addr} {rows : List (List UInt8)} {W W' : World} {o : Option Nat} (h : HRead (some ad) rows W) (hg : W.grownBy W' o) (hne : some ad.block ≠ o) : HRead (some ad) rows W' := by
  refine ⟨h.1, fun h0 => ?_⟩
  obtain ⟨a', e, hc⟩ := h.2 h0
  injection e with e
  subst e
  refine ⟨_, rfl, fun j i hj hi => ?_⟩
  have h1 := hc j i hj hi
  have hb : ∀ k, (ad.add k).block = ad.block := fun k => by unfold Addr.add; split <;> rfl
  rw [hg.cell_far _ (World.block_lt_of_cell? W _ h1) (by rw [hb]; exact hne)]
  exact h1
theorem bc_one (x : List UInt8) : ∀ u ∈ bc x, u.oneCell' = true := by
  intro u hu
  unfold bc at hu
  rw [List.mem_map] at hu
  obtain ⟨b, _, rfl⟩ := hu
  rfl
theorem hc_one (rows : List (List UInt8)) : ∀ u ∈ hc rows, u.oneCell' = true := by
  intro u hu
  unfold hc at hu
  rw [List.mem_flatMap] at hu
  obtain ⟨x, _, hx⟩ := hu
  exact bc_one x u hx
/-- append(row, more...): hashes more, and where they lie. -/
theorem append_hrows (base : Nat) (v : Value) (rows more : List (List UInt8)) (w0 W : World) (ad : Addr) (c : Nat) (hr : HRow base v rows W) (hB : Below base w0 W) (hbase : base ≤ W.heap.size) (hm : HRead (some ad) more W) (hl : rows.length + more.length ≤ 4398046511000) :
    ∃ v' W', (Builtin.append_ #[31, 31] 31 #[v, .slice (some ad) more.length c]).run Try.prog W = .ok v' W' ∧ HRow base v' (rows ++ more) W' ∧ Below base w0 W' ∧ W.grownBy W' v.ownBlock ∧ (v'.ownBlock = v.ownBlock ∨ v'.ownBlock = some W.heap.size) := by
  obtain ⟨i0, hi, hzz⟩ := Option.map_eq_some_iff.1 info23
  simp only [Prod.mk.injEq] at hzz
  obtain ⟨hz0, hz1, hz2⟩ := hzz
  obtain ⟨v', W', h1, h2, h3, _, h5⟩ := run_append_own_at (P := Try.prog) W base 31 31 23 i0 (.agg (brw 32 [])) 32 32 Try.underlying31 hi hz0 hz1 hz2 rfl (by omega) v rows.length (hc rows) hr.1 ad more.length c (hc more) (hc_len more hm.1) (fun j u hj => by
    have hjl := (List.getElem?_eq_some_iff.1 hj).1
    rw [hc_len more hm.1] at hjl
    obtain ⟨a', e, hcc⟩ := hm.2 (by omega)
    injection e with e
    subst e
    have e1 := hcc (j / 32) (j % 32) (by omega) (by omega)
    have e2 := hc_at more (j / 32) (j % 32) hm.1 (by omega) (by omega)
    rw [show j / 32 * 32 + j % 32 = j by omega] at e1 e2
    rw [e1, ← e2, hj]) (hc_one more) (by simp only [maxLen]; omega) (by omega) hbase
  refine ⟨v', W', h1, ⟨by rw [List.length_append, hc_append]; exact h2, fun y hy => ?_⟩, hB.grown h3 hbase (fun k hk => hrow_own hr k hk), h3, h5⟩
  rcases List.mem_append.1 hy with h | h
  · exact hr.2 y h
  · exact hm.1 y h
theorem hread_one {W : World} {g : Nat} {x : List UInt8} (hx : x.length = 32) (h : W.heap[g]? = some (.cells (brw 32 x) 23 (0, 0))) : HRead (some ⟨g, 0, none⟩) [x] W := by
  refine ⟨fun y hy => by rw [List.mem_singleton.1 hy]; exact hx, fun _ => ⟨_, rfl, fun j i hj hi => ?_⟩⟩
  have hj0 : j = 0 := by simpa using hj
  subst hj0
  have hadd : (⟨g, 0, none⟩ : Addr).add (0 * 32 + i) = ⟨g, 0 * 32 + i, none⟩ := by unfold Addr.add; split <;> simp_all
  rw [hadd, blk_cell h, brw_full 32 x hx, List.getElem?_toArray]
  show (x.map fun c => Value.int .u8 c.toNat)[0 * 32 + i]? = some (.int .u8 (x.getD i 0).toNat)
  rw [Nat.zero_mul, Nat.zero_add, List.getElem?_map, List.getElem?_eq_getElem (by omega), List.getD_eq_getElem?_getD, List.getElem?_eq_getElem (by omega)]; rfl
/-- The neighbour's place. -/
def sib (i : Nat) : Nat := if i % 2 = 0 then i + 1 else i - 1
theorem xor_one (i : Nat) : i ^^^ 1 = sib i := by
  have h1 : (i ^^^ 1) % 2 = (i % 2) ^^^ 1 := by rw [Nat.xor_mod_two_pow (n := 1)]
  have h2 : (i ^^^ 1) / 2 = i / 2 := by rw [Nat.xor_div_two]; simp
  have e0 : (0 ^^^ 1 : Nat) = 1 := rfl
  have e1 : (1 ^^^ 1 : Nat) = 0 := rfl
  unfold sib
  generalize i ^^^ 1 = y at h1 h2 ⊢
  rcases Nat.mod_two_eq_zero_or_one i with h | h
  · rw [if_pos h]; rw [h, e0] at h1; omega
  · rw [if_neg (by omega)]; rw [h, e1] at h1; omega
theorem sib_bits (i : Nat) (h : i < 4611686018427387904) : bits .xor .i64 (i : Int) 1 = ((sib i : Nat) : Int) := by
  have hs : sib i ≤ i + 1 := by unfold sib; split <;> omega
  show IntKind.i64.wrap ((BitVec.ofInt 64 (i : Int) ^^^ BitVec.ofInt 64 ((1 : Nat) : Int)).toNat : Int) = _
  rw [BitVec.toNat_xor, ofInt_u64 i (by omega), ofInt_u64 1 (by decide), xor_one, IntKind.wrap_i64]
  omega
/-- The path of a place through the rows above a row. -/
def pth (rows : List (List UInt8)) (i : Nat) : List (List UInt8) := if 1 < rows.length then (if sib i < rows.length then [rows.getD (sib i) []] else []) ++ pth (abv rows) (i / 2) else []
termination_by rows.length
decreasing_by rw [abv_len]; omega
theorem pth_more (rows : List (List UInt8)) (i : Nat) (h : 1 < rows.length) : pth rows i = (if sib i < rows.length then [rows.getD (sib i) []] else []) ++ pth (abv rows) (i / 2) := by rw [pth, if_pos h]
theorem pth_one (rows : List (List UInt8)) (i : Nat) (h : ¬ 1 < rows.length) : pth rows i = [] := by rw [pth, if_neg h]
/-- The path of a text. -/
def pathF (xs : List ByteArray) (i : Int) : List (List UInt8) := if 0 ≤ i ∧ i < xs.length then pth (tl xs) i.toNat else []
def pathE (xs : List ByteArray) (i : Int) : Int := if 0 ≤ i ∧ i < xs.length then 0 else 1
set_option maxHeartbeats 8000000 in
set_option maxRecDepth 100000 in
theorem path_calls (A : Option Addr) (cp : Nat) (xs : List ByteArray) (i : Int) (w : World) (hr : Kd.C Kd.string w A xs.length xs) (hcp : xs.length ≤ cp) (hn : xs.length ≤ 1048576) (hsz : ∀ s ∈ xs, s.size ≤ 140737488355000) :
    Calls Try.prog 17 #[.slice A xs.length cp, .int .i64 i] w fun e w' => ∃ v, e = .returned (.tuple #[v, .int .i64 (pathE xs i)]) ∧ HRow w.heap.size v (pathF xs i) w' ∧ Below w.heap.size w w' := by
  have HR := Aside0.mk hr
  have HSZ := Aside0.mk hsz
  have RN : Aside0 (∀ W, HRow w.heap.size (.slice none 0 0) [] W) := ⟨hrow_nil _⟩
  clear hr hsz
  go_enter Try.func17, Try.ntmps17
  by_cases h0 : i < 0
  · have q1 : (i < 0) = True := eq_true h0
    have P1 : Aside0 (pathF xs i = [] ∧ pathE xs i = 1) := ⟨by unfold pathF pathE; rw [if_neg (by omega), if_neg (by omega)]; exact ⟨rfl, rfl⟩⟩
    go_wp2
    refine bodyPost_ret (results_tmp2 rfl _ _ _) rfl ?_
    exact ⟨_, by rw [P1.out.2]; rfl, by rw [P1.out.1]; exact RN.out _, Below.refl _ _⟩
  by_cases h1 : (xs.length : Int) ≤ i
  · have q1 : (i < 0) = False := eq_false h0
    have q2 : ((xs.length : Int) ≤ i) = True := eq_true h1
    have P1 : Aside0 (pathF xs i = [] ∧ pathE xs i = 1) := ⟨by unfold pathF pathE; rw [if_neg (by omega), if_neg (by omega)]; exact ⟨rfl, rfl⟩⟩
    go_wp2
    refine bodyPost_ret (results_tmp2 rfl _ _ _) rfl ?_
    exact ⟨_, by rw [P1.out.2]; rfl, by rw [P1.out.1]; exact RN.out _, Below.refl _ _⟩
  obtain ⟨j0, rfl⟩ : ∃ j : Nat, i = (j : Int) := ⟨i.toNat, by omega⟩
  have q1 : (((j0 : Nat) : Int) < 0) = False := eq_false h0
  have q2 : ((xs.length : Int) ≤ (j0 : Int)) = False := eq_false h1
  have q3 : (xs.length ≤ j0) = False := eq_false (by omega)
  have hj0 : j0 < xs.length := by omega
  have P1 : Aside0 (pathF xs j0 = pth (tl xs) j0 ∧ pathE xs j0 = 0) := ⟨by unfold pathF pathE; rw [if_pos (by omega), if_pos (by omega)]; exact ⟨rfl, rfl⟩⟩
  have hx1 : 0 < xs.length := by omega
  clear h0 h1
  go_wp2_with (go_at_call 23; (with_reducible refine (leaves_calls A cp xs _ HR.out hcp (by omega) hx1 HSZ.out).mono ?_); rintro e w2 ⟨rfl, hh, hb⟩; have HH := Aside0.mk hh; have D0 := Aside0.mk hb; clear hb hh)
  go_loopw [1, 6, 7] (fun v1 v6 v7 W => ∃ (rows pre : List (List UInt8)) (i : Nat) (B : Addr) (c : Nat), v1 = .int .i64 i ∧ v7 = .slice (some B) rows.length c ∧ Aside0 (v6.ownBlock ≠ some B.block) ∧ 0 < rows.length ∧ rows.length ≤ c ∧ rows.length ≤ 1048576 ∧ i < rows.length ∧ Aside0 (pre.length + rows.length ≤ 1048576) ∧ Aside0 (HRead (some B) rows W) ∧ Aside0 (HRow w.heap.size v6 pre W) ∧ Aside0 (pre ++ pth rows i = pth (tl xs) j0) ∧ Aside0 (Below w.heap.size w W)) (fun _ _ v7 _ => slLen v7)
  case atStart =>
    exact ⟨tl xs, [], j0, _, xs.length, rfl, by rw [tl_len], ⟨by simp [Value.ownBlock]⟩, by rw [tl_len]; exact hx1, by rw [tl_len]; exact Nat.le_refl _, by rw [tl_len]; exact hn, by rw [tl_len]; exact hj0, ⟨by rw [tl_len]; simpa using hn⟩, HH, ⟨RN.out _⟩, ⟨rfl⟩, D0⟩
  case round =>
    clear HH D0 q1 q2 q3
    obtain ⟨rows, pre, i, ad, c, rfl, rfl, HNE, hr0, hrc, hrn, hi, HPL, HH, HP, HCH, D0⟩ := hrel
    by_cases hlt : 1 < rows.length
    · have q4 : ((1 : Int) < (rows.length : Int)) = True := eq_true (by omega)
      have q5 : (1 < rows.length) = True := eq_true hlt
      have HAL2 := Aside0.mk (abv_len rows)
      have hxb := sib_bits i (by omega)
      have hsb : sib i ≤ i + 1 := by unfold sib; split <;> omega
      have HTH := Aside0.mk (pth_more rows i hlt)
      generalize hsi : sib i = s at hxb hsb HTH
      clear hsi
      by_cases hs : s < rows.length
      · have q6 : ((s : Int) < (rows.length : Int)) = True := eq_true (by omega)
        have q7 : (s < rows.length) = True := eq_true hs
        obtain ⟨S, hS⟩ : ∃ S, S = rows.getD s [] := ⟨_, rfl⟩
        have hS32 : S.length = 32 := by rw [hS]; exact hread_len HH.out s hs
        have hat := hread_at HH.out s hs
        rw [← hS] at hat
        have HAT := Aside0.mk hat
        have HTH2 : Aside0 (pth rows i = S :: pth (abv rows) (i / 2)) := ⟨by rw [HTH.out, if_pos hs, ← hS]; rfl⟩
        clear hat hS HTH
        have hpl : Aside0 (pre.length + [S].length ≤ 4398046511000) := ⟨by have := HPL.out; show pre.length + 1 ≤ _; omega⟩
        go_wp2_with (first
          | ((with_reducible refine gate_dst (N := 34) rfl ?_); go_loud (refine wpList_load_hash rfl (.tmp 33) rfl (ad.add (s * 32)) rfl S hS32 HAT.out ?_))
          | ((with_reducible refine gate_dst (N := 35) rfl ?_); go_loud (refine Kd.event_run rfl (exec_build1 (.tmp 34) rfl S hS32 (by rfl)) ?_))
          | ((with_reducible refine gate_dst (N := 36) rfl ?_); go_loud (obtain ⟨v2, w3, hr1, hr2, hr3, hr4, hr5⟩ := append_hrows w.heap.size _ pre [S] w _ ⟨wr.heap.size, 0, none⟩ 1 (hrow_below HP.out (below_alloc (Below.refl _ _) (.cells (brw 32 S) 23))) (below_alloc D0.out (.cells (brw 32 S) 23)) (below_alloc D0.out (.cells (brw 32 S) 23)).size (hread_one hS32 (blk_new wr (.cells (brw 32 S) 23))) hpl.out; refine Kd.event_run rfl (exec_append31 (.tmp 30) (.tmp 35) rfl rfl _ _ rfl rfl hr1) ?_; have HP2 := Aside0.mk hr2; have D2 := Aside0.mk hr3; have HH2 := Aside0.mk (hread_grown (hread_below HH.out (below_alloc (Below.refl _ _) (.cells (brw 32 S) 23))) hr4 (fun e => HNE.out e.symm)); have HO2 := Aside0.mk hr5; clear hr1 hr2 hr3 hr4 hr5))
          | (go_at_call 24; (with_reducible refine (above_calls ad c rows _ (by omega) hrc HH2.out hr0).mono ?_); rintro e w4 ⟨v4, rfl, hh, hb⟩; have H4 := Aside0.mk hh; have HP4 := Aside0.mk (hrow_below HP2.out hb); have D4 := Aside0.mk (below_then D2.out D2.out.size hb); have HLT := Aside0.mk (hrow_lt HP2.out); clear hb hh))
        obtain ⟨A4, c4, hv4, hc4, h4⟩ := hrow_read H4.out
        have hal := HAL2.out
        obtain ⟨a4, rfl, _⟩ := h4.2 (by omega)
        have hown := hrow_own H4.out a4.block (by rw [hv4]; rfl)
        refine ⟨⟨abv rows, pre ++ [S], i / 2, a4, c4, by go_num, hv4, ⟨fun e => ?_⟩, by omega, hc4, by omega, by omega, ⟨by rw [List.length_append]; have := HPL.out; show pre.length + 1 + _ ≤ _; omega⟩, ⟨h4⟩, HP4, ⟨by rw [← HCH.out, HTH2.out, List.append_assoc]; rfl⟩, D4⟩, ?_⟩
        · have := HLT.out _ e
          omega
        · rw [hv4]
          show (abv rows).length < rows.length
          omega
      · have q6 : ((s : Int) < (rows.length : Int)) = False := eq_false (by omega)
        have q7 : (s < rows.length) = False := eq_false hs
        have HTH2 : Aside0 (pth rows i = pth (abv rows) (i / 2)) := ⟨by rw [HTH.out, if_neg hs]; rfl⟩
        clear HTH
        go_wp2_with (go_at_call 24; (with_reducible refine (above_calls ad c rows _ (by omega) hrc HH.out hr0).mono ?_); rintro e w4 ⟨v4, rfl, hh, hb⟩; have H4 := Aside0.mk hh; have HP4 := Aside0.mk (hrow_below HP.out hb); have D4 := Aside0.mk (below_then D0.out D0.out.size hb); have HLT := Aside0.mk (hrow_lt HP.out); clear hb hh)
        obtain ⟨A4, c4, hv4, hc4, h4⟩ := hrow_read H4.out
        have hal := HAL2.out
        obtain ⟨a4, rfl, _⟩ := h4.2 (by omega)
        have hown := hrow_own H4.out a4.block (by rw [hv4]; rfl)
        refine ⟨⟨abv rows, pre, i / 2, a4, c4, by go_num, hv4, ⟨fun e => ?_⟩, by omega, hc4, by omega, by omega, ⟨by have := HPL.out; omega⟩, ⟨h4⟩, HP4, ⟨by rw [← HCH.out, HTH2.out]⟩, D4⟩, ?_⟩
        · have := HLT.out _ e
          omega
        · rw [hv4]
          show (abv rows).length < rows.length
          omega
    · have q4 : ((1 : Int) < (rows.length : Int)) = False := eq_false (by omega)
      have q5 : (1 < rows.length) = False := eq_false hlt
      have HE : Aside0 (pre = pth (tl xs) j0) := ⟨by rw [← HCH.out, pth_one rows i hlt, List.append_nil]⟩
      go_wp2
      refine bodyPost_ret (results_tmp2 rfl _ _ _) rfl ?_
      exact ⟨_, by rw [P1.out.2]; rfl, by rw [P1.out.1, ← HE.out]; exact HP.out, D0.out⟩
end Go.Proofs.Ythpnppfpmhlkaaa.Sha
