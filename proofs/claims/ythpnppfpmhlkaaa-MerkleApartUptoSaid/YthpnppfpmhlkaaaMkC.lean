/- Chapter 3: the row above a row of hashes, of the program and of the document. -/
import Derived.Test.YthpnppfpmhlkaaaMkB
namespace Go.Proofs.Ythpnppfpmhlkaaa.Sha
open Go.RowKit Go.Proofs.Ythpnppfpmhlkaaa.X Go.Proofs.YthpnppfpmhlkaaaW.PrintWords Go.Proofs.YthpnppfpmhlkaaaW.PrintLast Go.Proofs.YthpnppfpmhlkaaaW.PrintMore
set_option linter.unusedVariables false
set_option linter.unusedSimpArgs false

def abo.T5 : Bool × List (List Nat × List Nat) := (true, [([], []), ([], []), ([], []), ([2], [2]), ([1, 3], [1, 3]), ([4], [4]), ([], []), ([], []), ([7], [7]), ([8], [8]), ([6, 9], [6, 9]), ([10], [10]), ([5, 11], [5, 11]), ([12], [12]), ([0, 13, 12], [0, 13]), ([14, 14, 0, 1, 2, 3, 4, 5, 6, 7, 8, 9, 10, 11, 12, 13, 14], [0, 14])])
def abo.B5 : List Nat := [0, 0, 0, 4, 14, 30, 0, 0, 128, 384, 960, 1984, 4094, 8190, 16383, 32767]
theorem abo.tab5 : rtab .any (opsOf Try.f24 5) = abo.T5 := by kernel_rfl
theorem abo.bits5 : waitsOk abo.T5.2 abo.B5 = true := by kernel_rfl
def rab.T6 : Bool × List (List Nat × List Nat) := (true, [([], []), ([], []), ([], []), ([1, 2], [1, 2]), ([3], [3]), ([], []), ([], []), ([6], [6]), ([5, 7], [5, 7]), ([8], [8]), ([4, 9], [4, 9]), ([10], [10]), ([0, 11, 10], [0, 11]), ([12, 12, 0, 1, 2, 3, 4, 5, 6, 7, 8, 9, 10, 11, 12], [0, 12])])
def rab.B6 : List Nat := [0, 0, 0, 6, 14, 0, 0, 64, 224, 480, 1022, 2046, 4095, 8191]
theorem rab.tab6 : rtab .any (opsOf Try.f34 6) = rab.T6 := by kernel_rfl
theorem rab.bits6 : waitsOk rab.T6.2 rab.B6 = true := by kernel_rfl
theorem fold_get : ∀ (l : List Value) (k : Nat) (cs : Array Value) (j : Nat), ((l.zipIdx k).foldl (fun (cs : Array Value) (p : Value × Nat) => cs.setIfInBounds (0 + p.2) p.1) cs)[j]? = if k ≤ j ∧ j < k + l.length ∧ j < cs.size then l[j - k]? else cs[j]?
  | [], k, cs, j => by
    rw [if_neg (by simp; omega)]; rfl
  | v :: l, k, cs, j => by
    rw [List.zipIdx_cons, List.foldl_cons, fold_get l (k + 1)]
    rw [Array.size_setIfInBounds, List.length_cons]
    by_cases h1 : k + 1 ≤ j ∧ j < k + 1 + l.length ∧ j < cs.size
    · rw [if_pos h1, if_pos (by omega), show j - k = (j - (k + 1)) + 1 by omega, List.getElem?_cons_succ]
    · rw [if_neg h1]
      by_cases h2 : k ≤ j ∧ j < k + (l.length + 1) ∧ j < cs.size
      · have hj : j = k := by omega
        subst hj
        rw [if_pos h2, Nat.sub_self, Nat.zero_add, Array.getElem?_setIfInBounds, if_pos rfl, if_pos h2.2.2]; rfl
      · rw [if_neg h2, Nat.zero_add, Array.getElem?_setIfInBounds]
        by_cases h3 : k = j
        · subst h3
          rw [if_pos rfl, if_neg (by omega), Array.getElem?_eq_none (by omega)]
        · rw [if_neg h3]
theorem fill_one (cs c : Array Value) (h : cs.size = 32) (hc : c.size = 32) (place : Nat → Option (Nat × Nat)) (hp : place 0 = some (0, 32)) : Instr.fill place cs [(0, .agg c)] = some c := by
  unfold Instr.fill
  rw [hp]
  have hz : (Value.agg c).cells = c := rfl
  dsimp only
  rw [hz, if_neg (by simp [h, hc])]
  unfold Instr.fill
  congr 1
  apply Array.ext_getElem?
  intro j
  have e : (c.zipIdx.foldl (fun (cs : Array Value) (x : Value × Nat) => match x with | (c, j) => cs.setIfInBounds (0 + j) c) cs) = (c.toList.zipIdx 0).foldl (fun (cs : Array Value) (p : Value × Nat) => cs.setIfInBounds (0 + p.2) p.1) cs := by
    rw [← Array.foldl_toList, Array.toList_zipIdx]
  rw [e, fold_get]
  by_cases hj : j < 32
  · rw [if_pos ⟨Nat.zero_le _, by rw [Array.length_toList]; omega, by omega⟩, Nat.sub_zero, Array.getElem?_toList]
  · rw [if_neg (by rw [Array.length_toList]; omega), Array.getElem?_eq_none (by omega), Array.getElem?_eq_none (by omega)]
theorem exec_build1 {o : Oper} {f : Operand → Value} {W : World} (p : Operand) (ho : o.op = .buildSlice 31 1 #[(0, p)]) (S : List UInt8) (hS : S.length = 32) (hp : f p = .agg (brw 32 S)) : (execOp f o).run Try.prog W = .ok (.value (.slice (some ⟨W.heap.size, 0, none⟩) 1 1)) (W.alloc (.cells (brw 32 S) 23)) := by
  obtain ⟨i0, hi, hzz⟩ := Option.map_eq_some_iff.1 info23
  simp only [Prod.mk.injEq] at hzz
  obtain ⟨hz0, hz1, hz2⟩ := hzz
  have h := run_buildSlice (P := Try.prog) W 31 23 1 #[(0, .agg (brw 32 S))] (brw 32 S) i0 (.agg (brw 32 [])) Try.underlying31 hi hz0 (by rw [hz1]; decide) (by rw [hz1]; decide) (by
    rw [hz1]
    exact fill_one _ _ (by simp) (brw_size 32 S (by omega)) _ rfl)
  unfold execOp
  simp only [ho, List.map_toArray, List.map_cons, List.map_nil, hp, Sem.run_bind, h, Result.andThen_ok, Sem.run_pure]
/-- The nodes of k pairs. -/
def prs (rows : List (List UInt8)) (k : Nat) : List (List UInt8) := (List.range k).map fun j => nodeF (rows.getD (2 * j) []) (rows.getD (2 * j + 1) [])
theorem prs_succ (rows : List (List UInt8)) (k : Nat) : prs rows (k + 1) = prs rows k ++ [nodeF (rows.getD (2 * k) []) (rows.getD (2 * k + 1) [])] := by
  unfold prs; rw [List.range_succ, List.map_append]; rfl
theorem prs_len (rows : List (List UInt8)) (k : Nat) : (prs rows k).length = k := by unfold prs; rw [List.length_map, List.length_range]
/-- The row above. -/
def abv (rows : List (List UInt8)) : List (List UInt8) := prs rows (rows.length / 2) ++ (if rows.length % 2 = 1 then [rows.getD (rows.length - 1) []] else [])
theorem abv_len (rows : List (List UInt8)) : (abv rows).length = rows.length / 2 + rows.length % 2 := by
  unfold abv
  rw [List.length_append, prs_len]
  by_cases h : rows.length % 2 = 1
  · rw [if_pos h, h]; rfl
  · rw [if_neg h, show rows.length % 2 = 0 by omega]; rfl
set_option maxHeartbeats 8000000 in
set_option maxRecDepth 100000 in
theorem above_calls (ad : Addr) (cp : Nat) (rows : List (List UInt8)) (w : World) (hn : rows.length ≤ 1099511627776) (hcp : rows.length ≤ cp) (hr : HRead (some ad) rows w) (h0 : 0 < rows.length) :
    Calls Try.prog 24 #[.slice (some ad) rows.length cp] w fun e w' => ∃ v, e = .returned v ∧ HRow w.heap.size v (abv rows) w' ∧ Below w.heap.size w w' := by
  have HIN := Aside0.mk hr
  have RN : Aside0 (HRow w.heap.size (.slice none 0 0) (prs rows 0) w) := ⟨hrow_nil _ _⟩
  clear hr
  go_enter Try.func24, Try.ntmps24
  go_wp2
  obtain ⟨hf, hhf⟩ : ∃ h, h = rows.length / 2 := ⟨_, rfl⟩
  go_loopw [3, 8] (fun v k W => ∃ i : Nat, i ≤ hf ∧ k = .int .i64 i ∧ Aside0 (HRow w.heap.size v (prs rows i) W) ∧ Aside0 (Below w.heap.size w W)) (fun _ k _ => hf - (intOf k).toNat)
  case atStart => exact ⟨0, Nat.zero_le _, rfl, RN, ⟨Below.refl _ _⟩⟩
  case round =>
    obtain ⟨i, hi, rfl, HH, D0⟩ := hrel
    by_cases hlt : i < hf
    · have q1 : ((i : Int) < (rows.length : Int) / 2) = True := eq_true (by omega)
      obtain ⟨m0, hm0e⟩ : ∃ m, m = 2 * i := ⟨_, rfl⟩
      obtain ⟨m1, hm1e⟩ : ∃ m, m = 2 * i + 1 := ⟨_, rfl⟩
      have hm0 : m0 < rows.length := by omega
      have hm1 : m1 < rows.length := by omega
      have hw0 : wrap64 (2 * (i : Int)) = (m0 : Int) := by unfold wrap64; omega
      have hw1 : wrap64 ((m0 : Int) + 1) = (m1 : Int) := by unfold wrap64; omega
      have b0 : ((m0 : Int) < (rows.length : Int)) = True := eq_true (by omega)
      have b1 : ((m1 : Int) < (rows.length : Int)) = True := eq_true (by omega)
      have b2 : (m0 < rows.length) = True := eq_true hm0
      have b3 : (m1 < rows.length) = True := eq_true hm1
      obtain ⟨pre, hpre⟩ : ∃ p, p = prs rows i := ⟨_, rfl⟩
      have hpl : Aside0 (pre.length ≤ 1099511627776) := ⟨by rw [hpre, prs_len]; omega⟩
      obtain ⟨S, hS⟩ : ∃ S, S = nodeF (rows.getD m0 []) (rows.getD m1 []) := ⟨_, rfl⟩
      have hS32 : S.length = 32 := by rw [hS]; exact nodeF_len _ _
      have hl0 := hread_len HIN.out m0 hm0
      have hl1 := hread_len HIN.out m1 hm1
      have HN : ∀ W : World, Calls Try.prog 14 #[.agg (brw 32 (rows.getD m0 [])), .agg (brw 32 (rows.getD m1 []))] W fun e w' => e = .returned (.agg (brw 32 S)) ∧ Below W.heap.size W w' := fun W => by
        rw [← B32_brw _ hl0, ← B32_brw _ hl1, ← B32_brw S hS32, hS]; exact node_calls _ _ hl0 hl1 W
      have HPS : Aside0 (prs rows (i + 1) = pre ++ [S]) := ⟨by rw [prs_succ, hpre, hS, hm0e, hm1e]⟩
      rw [← hpre] at HH
      have RR : Aside0 (HRead (some ad) rows wr) := ⟨hread_below HIN.out D0.out⟩
      clear hpre hS hm0e hm1e hl0 hl1
      go_upto_region 5 with (fail)
      refine start_ (n := 16) (S := fun W => HRead (some ad) rows W) (ds := []) #[false, false, false, false, false, false, false, false, false, false, false, false, false, false, false, false] (by kernel_rfl) rfl rfl (hread_below RR.out (below_drew1 (Below.refl _ _))) (fun hHeld => ?_); refine with_tabW abo.tab5 abo.bits5 (fun HT_ HW_ => ?_)
      have n_RR := Aside0.mk (hread_below RR.out (below_drew1 (Below.refl _ _)))
      have n_HH := Aside0.mk (hrow_below HH.out (below_drew1 (Below.refl _ _)))
      have n_D0 := Aside0.mk (below_drew1 D0.out)
      clear RR HH D0
      have RR := n_RR
      have HH := n_HH
      have D0 := n_D0
      clear n_RR n_HH n_D0
      generalize World.drew _ = wR at RR HH D0 hHeld ⊢
      refine pure_ (i := 0) (N := some 11) (v := ?_) (a' := ?_) #[true, false, false, false, false, false, false, false, false, false, false, false, false, false, false, false] rfl rfl (any_of HT_.out (by kernel_rfl)) (fun _ _ _ h => h) (Or.inl ⟨by rfl, ?_⟩) ?_ ?_
      rotate_left
      · intro w'
        go_simp
        with_reducible rfl
      rotate_left
      · simp only [Act.put, List.setIfInBounds_toArray, List.set_cons_zero, List.set_cons_succ, i64_w, i32_w]
        rfl
      refine pure_ (i := 1) (N := some 12) (v := ?_) (a' := ?_) #[true, true, false, false, false, false, false, false, false, false, false, false, false, false, false, false] rfl rfl (any_of HT_.out (by kernel_rfl)) (fun _ _ _ h => h) (Or.inl ⟨by rfl, ?_⟩) ?_ ?_
      rotate_left
      · intro w'
        go_simp
        with_reducible rfl
      rotate_left
      · simp only [Act.put, List.setIfInBounds_toArray, List.set_cons_zero, List.set_cons_succ, i64_w, i32_w]
        rfl
      refine pure_ (i := 2) (N := some 13) (v := ?_) (a' := ?_) #[true, true, true, false, false, false, false, false, false, false, false, false, false, false, false, false] rfl rfl (any_of HT_.out (by kernel_rfl)) (fun _ _ _ h => h) (Or.inl ⟨by rfl, ?_⟩) ?_ ?_
      rotate_left
      · intro w'
        go_simp
        with_reducible rfl
      rotate_left
      · simp only [Act.put, List.setIfInBounds_toArray, List.set_cons_zero, List.set_cons_succ, i64_w, i32_w]
        rfl
      refine pure_ (i := 3) (N := some 14) (v := ?_) (a' := ?_) #[true, true, true, true, false, false, false, false, false, false, false, false, false, false, false, false] rfl rfl (any_of HT_.out (by kernel_rfl)) (fun _ _ _ h => h) (Or.inl ⟨by rfl, ?_⟩) ?_ ?_
      rotate_left
      · intro w'
        go_simp
        with_reducible rfl
      rotate_left
      · simp only [Act.put, List.setIfInBounds_toArray, List.set_cons_zero, List.set_cons_succ, i64_w, i32_w]
        rfl
      refine pure_ (i := 4) (N := some 15) (v := ?_) (a' := ?_) #[true, true, true, true, true, false, false, false, false, false, false, false, false, false, false, false] rfl rfl (any_of HT_.out (by kernel_rfl)) (fun _ _ _ h => h) (Or.inl ⟨by rfl, ?_⟩) ?_ ?_
      rotate_left
      · intro w'
        go_simp
        with_reducible rfl
      rotate_left
      · simp only [Act.put, List.setIfInBounds_toArray, List.set_cons_zero, List.set_cons_succ, i64_w, i32_w]
        rfl
      refine pure_ (i := 6) (N := some 17) (v := ?_) (a' := ?_) #[true, true, true, true, true, false, true, false, false, false, false, false, false, false, false, false] rfl rfl (any_of HT_.out (by kernel_rfl)) (fun _ _ _ h => h) (Or.inl ⟨by rfl, ?_⟩) ?_ ?_
      rotate_left
      · intro w'
        go_simp
        with_reducible rfl
      rotate_left
      · simp only [Act.put, List.setIfInBounds_toArray, List.set_cons_zero, List.set_cons_succ, i64_w, i32_w]
        rfl
      refine pure_ (i := 7) (N := some 18) (v := ?_) (a' := ?_) #[true, true, true, true, true, false, true, true, false, false, false, false, false, false, false, false] rfl rfl (any_of HT_.out (by kernel_rfl)) (fun _ _ _ h => h) (Or.inl ⟨by rfl, ?_⟩) ?_ ?_
      rotate_left
      · intro w'
        go_simp
        with_reducible rfl
      rotate_left
      · simp only [Act.put, List.setIfInBounds_toArray, List.set_cons_zero, List.set_cons_succ, i64_w, i32_w]
        rfl
      refine pure_ (i := 8) (N := some 19) (v := ?_) (a' := ?_) #[true, true, true, true, true, false, true, true, true, false, false, false, false, false, false, false] rfl rfl (any_of HT_.out (by kernel_rfl)) (fun _ _ _ h => h) (Or.inl ⟨by rfl, ?_⟩) ?_ ?_
      rotate_left
      · intro w'
        go_simp
        with_reducible rfl
      rotate_left
      · simp only [Act.put, List.setIfInBounds_toArray, List.set_cons_zero, List.set_cons_succ, i64_w, i32_w]
        rfl
      refine pure_ (i := 9) (N := some 20) (v := ?_) (a' := ?_) #[true, true, true, true, true, false, true, true, true, true, false, false, false, false, false, false] rfl rfl (any_of HT_.out (by kernel_rfl)) (fun _ _ _ h => h) (Or.inl ⟨by rfl, ?_⟩) ?_ ?_
      rotate_left
      · intro w'
        go_simp
        with_reducible rfl
      rotate_left
      · simp only [Act.put, List.setIfInBounds_toArray, List.set_cons_zero, List.set_cons_succ, i64_w, i32_w]
        rfl
      refine pure_ (i := 10) (N := some 21) (v := ?_) (a' := ?_) #[true, true, true, true, true, false, true, true, true, true, true, false, false, false, false, false] rfl rfl (any_of HT_.out (by kernel_rfl)) (fun _ _ _ h => h) (Or.inl ⟨by rfl, ?_⟩) ?_ ?_
      rotate_left
      · intro w'
        go_simp
        with_reducible rfl
      rotate_left
      · simp only [Act.put, List.setIfInBounds_toArray, List.set_cons_zero, List.set_cons_succ, i64_w, i32_w]
        rfl
      refine take_ (i := 5) (N := some 16) (v := ?_) (a' := ?_) #[true, true, true, true, true, true, true, true, true, true, true, false, false, false, false, false] rfl rfl (take_ofW HT_.out HW_.out (by kernel_rfl)) (fun _ _ _ h => h) (Or.inl ⟨by rfl, ?_⟩) hHeld ?_ ?_
      rotate_left
      · intro w' s0
        refine exec_load_hash (.tmp 15) ?_ (ad.add (m0 * 32)) ?_ (rows.getD m0 []) (hread_len s0 m0 hm0) (hread_at s0 m0 hm0) <;> rfl
      rotate_left
      · simp only [Act.put, List.setIfInBounds_toArray, List.set_cons_zero, List.set_cons_succ, i64_w, i32_w]
        rfl
      refine take_ (i := 11) (N := some 22) (v := ?_) (a' := ?_) #[true, true, true, true, true, true, true, true, true, true, true, true, false, false, false, false] rfl rfl (take_ofW HT_.out HW_.out (by kernel_rfl)) (fun _ _ _ h => h) (Or.inl ⟨by rfl, ?_⟩) hHeld ?_ ?_
      rotate_left
      · intro w' s0
        refine exec_load_hash (.tmp 21) ?_ (ad.add (m1 * 32)) ?_ (rows.getD m1 []) (hread_len s0 m1 hm1) (hread_at s0 m1 hm1) <;> rfl
      rotate_left
      · simp only [Act.put, List.setIfInBounds_toArray, List.set_cons_zero, List.set_cons_succ, i64_w, i32_w]
        rfl
      refine one_ (i := 12) (N := some 23) #[true, true, true, true, true, true, true, true, true, true, true, true, true, false, false, false] rfl rfl (one_of HT_.out (by kernel_rfl)) (by decide) (fun K hK => ?_)
      refine goes_ Try.func14 (by kernel_rfl) rfl #[.agg (brw 32 (rows.getD m0 [])), .agg (brw 32 (rows.getD m1 []))] (by rfl) rfl rfl (by (try simp only [List.map_toArray, List.map_cons, List.map_nil]); first | done | rfl) ?_
      with_reducible refine (HN _).mono ?_
      rintro e w2 ⟨rfl, hb⟩
      refine ⟨_, rfl, ?_⟩
      have n_RR := Aside0.mk (hread_below RR.out (hb))
      have n_HH := Aside0.mk (hrow_below HH.out (hb))
      have n_D0 := Aside0.mk (below_then D0.out D0.out.size hb)
      clear RR HH D0
      have RR := n_RR
      have HH := n_HH
      have D0 := n_D0
      clear n_RR n_HH n_D0
      clear hb
      refine hK.out _ _ RR.out (fun hHeld => ?_)
      clear hK K
      refine norm_ (a' := ?_) ?_ ?_
      rotate_left
      · show Act.put _ (some 23) _ = _
        simp only [Act.put, List.setIfInBounds_toArray, List.set_cons_zero, List.set_cons_succ, i64_w, i32_w]
        rfl
      refine one_ (i := 13) (N := some 24) #[true, true, true, true, true, true, true, true, true, true, true, true, true, true, false, false] rfl rfl (one_of HT_.out (by kernel_rfl)) (by decide) (fun K hK => ?_)
      refine value_ (w1 := _) (v := _) (by rfl) rfl (exec_build1 (.tmp 23) rfl S hS32 (by rfl)) ?_
      have CB := Aside0.mk (blk_new w2 (.cells (brw 32 S) 23))
      have n_RR := Aside0.mk (hread_below RR.out (below_alloc (Below.refl _ _) (.cells (brw 32 S) 23)))
      have n_HH := Aside0.mk (hrow_below HH.out (below_alloc (Below.refl _ _) (.cells (brw 32 S) 23)))
      have n_D0 := Aside0.mk (below_alloc D0.out (.cells (brw 32 S) 23))
      clear RR HH D0
      have RR := n_RR
      have HH := n_HH
      have D0 := n_D0
      clear n_RR n_HH n_D0
      refine hK.out _ _ RR.out (fun hHeld => ?_)
      clear hK K
      refine norm_ (a' := ?_) ?_ ?_
      rotate_left
      · show Act.put _ (some 24) _ = _
        simp only [Act.put, List.setIfInBounds_toArray, List.set_cons_zero, List.set_cons_succ, i64_w, i32_w]
        rfl
      refine one_ (i := 14) (N := some 25) #[true, true, true, true, true, true, true, true, true, true, true, true, true, true, true, false] rfl rfl (one_of HT_.out (by kernel_rfl)) (by decide) (fun K hK => ?_)
      obtain ⟨v2, w3, hr1, hr2, hr3⟩ := append_hrow w.heap.size _ pre S hS32 w _ w2.heap.size 1 HH.out D0.out D0.out.size CB.out hpl.out
      refine value_ (w1 := w3) (v := v2) (by rfl) rfl (exec_append31 (.tmp 11) (.tmp 24) rfl rfl _ _ rfl rfl hr1) ?_
      have n_RR : Aside0 (HRead (some ad) rows w3) := ⟨hread_below HIN.out hr3⟩
      have n_HH := Aside0.mk hr2
      have n_D0 := Aside0.mk hr3
      clear RR HH D0 CB hr1 hr2 hr3
      have RR := n_RR
      have HH := n_HH
      have D0 := n_D0
      clear n_RR n_HH n_D0
      refine hK.out _ _ RR.out (fun hHeld => ?_)
      clear hK K
      refine norm_ (a' := ?_) ?_ ?_
      rotate_left
      · show Act.put _ (some 25) _ = _
        simp only [Act.put, List.setIfInBounds_toArray, List.set_cons_zero, List.set_cons_succ, i64_w, i32_w]
        rfl
      refine pure_ (i := 15) (N := some 3) (v := ?_) (a' := ?_) #[true, true, true, true, true, true, true, true, true, true, true, true, true, true, true, true] rfl rfl (any_of HT_.out (by kernel_rfl)) (fun _ _ _ h => h) (Or.inl ⟨by rfl, ?_⟩) ?_ ?_
      rotate_left
      · intro w'
        go_simp
        with_reducible rfl
      rotate_left
      · simp only [Act.put, List.setIfInBounds_toArray, List.set_cons_zero, List.set_cons_succ, i64_w, i32_w]
        rfl
      refine done_ (done_of HT_.out (by kernel_rfl)) ?_
      go_wp2
      go_roundw
      case rel => exact ⟨i + 1, by omega, by go_num, ⟨by rw [HPS.out]; exact HH.out⟩, D0⟩
      case measure => simp [intOf]; omega
    · have hie : i = hf := by omega
      have q1 : ((i : Int) < (rows.length : Int) / 2) = False := eq_false (by omega)
      obtain ⟨pre, hpre⟩ : ∃ p, p = prs rows i := ⟨_, rfl⟩
      have hpl : Aside0 (pre.length ≤ 1099511627776) := ⟨by rw [hpre, prs_len]; omega⟩
      rw [← hpre] at HH
      by_cases hodd : rows.length % 2 = 1
      · have q2 : ((rows.length : Int) % 2 = 1) = True := eq_true (by omega)
        have q3 : (((rows.length : Int) % 2) == 1) = true := beq_iff_eq.mpr (by omega)
        obtain ⟨m1, hm1e⟩ : ∃ m, m = rows.length - 1 := ⟨_, rfl⟩
        have hm1 : m1 < rows.length := by omega
        have hw1 : wrap64 ((rows.length : Int) - 1) = (m1 : Int) := by unfold wrap64; omega
        have b1 : ((m1 : Int) < (rows.length : Int)) = True := eq_true (by omega)
        have b3 : (m1 < rows.length) = True := eq_true hm1
        obtain ⟨S, hS⟩ : ∃ S, S = rows.getD m1 [] := ⟨_, rfl⟩
        have hS32 : S.length = 32 := by rw [hS]; exact hread_len HIN.out m1 hm1
        have hat := hread_at (hread_below HIN.out D0.out) m1 hm1
        rw [← hS, hm1e] at hat
        have HAB : Aside0 (abv rows = pre ++ [S]) := ⟨by unfold abv; rw [if_pos hodd, ← hm1e, ← hS, hpre, hie, hhf]⟩
        clear hpre hS hm1e
        have HAT := Aside0.mk hat
        clear hat
        go_wp2_with (first
          | ((with_reducible refine gate_dst (N := 37) rfl ?_); go_loud (refine wpList_load_hash rfl (.tmp 36) rfl (ad.add ((rows.length - 1) * 32)) rfl S hS32 HAT.out ?_))
          | ((with_reducible refine gate_dst (N := 38) rfl ?_); go_loud (refine Kd.event_run rfl (exec_build1 (.tmp 37) rfl S hS32 (by rfl)) ?_))
          | ((with_reducible refine gate_dst (N := 39) rfl ?_); obtain ⟨v2, w3, hr1, hr2, hr3⟩ := append_hrow w.heap.size _ pre S hS32 w _ wr.heap.size 1 (hrow_below HH.out (below_alloc (Below.refl _ _) (.cells (brw 32 S) 23))) (below_alloc D0.out (.cells (brw 32 S) 23)) (below_alloc D0.out (.cells (brw 32 S) 23)).size (blk_new wr (.cells (brw 32 S) 23)) hpl.out; refine Kd.event_run rfl (exec_append31 (.tmp 31) (.tmp 38) rfl rfl _ _ rfl rfl hr1) ?_; have HH2 := Aside0.mk hr2; have D2 := Aside0.mk hr3; clear hr1 hr2 hr3))
        go_ret
        exact ⟨_, rfl, by rw [HAB.out]; exact HH2.out, D2.out⟩
      · have q2 : ((rows.length : Int) % 2 = 1) = False := eq_false (by omega)
        have q3 : (((rows.length : Int) % 2) == 1) = false := beq_eq_false_iff_ne.mpr (by omega)
        have HAB : Aside0 (abv rows = pre) := ⟨by unfold abv; rw [if_neg hodd, List.append_nil, hpre, hie, hhf]⟩
        clear hpre
        go_wp2
        go_ret
        exact ⟨_, rfl, by rw [HAB.out]; exact HH.out, D0.out⟩
def dp (rows : List (List UInt8)) (q : Nat) : List (List UInt8) := if 2 * q ≤ rows.length then prs rows q else abv rows
theorem dp_in (rows : List (List UInt8)) (q : Nat) (h : 2 * q ≤ rows.length) : dp rows q = prs rows q := by unfold dp; rw [if_pos h]
theorem dp_end (rows : List (List UInt8)) (q : Nat) (h : rows.length ≤ 2 * q) (h2 : 2 * q ≤ rows.length + 1) : dp rows q = abv rows := by
  by_cases hc : 2 * q ≤ rows.length
  · rw [dp_in rows q hc]
    unfold abv
    rw [if_neg (by omega), List.append_nil, show rows.length / 2 = q by omega]
  · unfold dp; rw [if_neg hc]
set_option maxHeartbeats 8000000 in
set_option maxRecDepth 100000 in
theorem rabove_calls (ad : Addr) (cp : Nat) (rows : List (List UInt8)) (w : World) (hn : rows.length ≤ 1099511627776) (hcp : rows.length ≤ cp) (hr : HRead (some ad) rows w) (h0 : 0 < rows.length) :
    Calls Try.prog 34 #[.slice (some ad) rows.length cp] w fun e w' => ∃ v, e = .returned v ∧ HRow w.heap.size v (abv rows) w' ∧ Below w.heap.size w w' := by
  have HIN := Aside0.mk hr
  have RN : Aside0 (HRow w.heap.size (.slice none 0 0) (dp rows 0) w) := ⟨by rw [dp_in rows 0 (Nat.zero_le _)]; exact hrow_nil _ _⟩
  clear hr
  go_enter Try.func34, Try.ntmps34
  go_wp2
  go_loopw [3, 4] (fun v k W => ∃ q e : Nat, e = 2 * q ∧ e ≤ rows.length + 1 ∧ k = .int .i64 e ∧ Aside0 (HRow w.heap.size v (dp rows q) W) ∧ Aside0 (Below w.heap.size w W)) (fun _ k _ => rows.length + 2 - (intOf k).toNat)
  case atStart => exact ⟨0, 0, rfl, Nat.zero_le _, rfl, RN, ⟨Below.refl _ _⟩⟩
  case round =>
    obtain ⟨q, e, he, hle, rfl, HH, D0⟩ := hrel
    by_cases hlt : e < rows.length
    · have q1 : ((e : Int) < (rows.length : Int)) = True := eq_true (by omega)
      obtain ⟨m0, hm0e⟩ : ∃ m, m = e := ⟨_, rfl⟩
      obtain ⟨m1, hm1e⟩ : ∃ m, m = e + 1 := ⟨_, rfl⟩
      obtain ⟨e2, he2⟩ : ∃ m, m = e + 2 := ⟨_, rfl⟩
      have hm0 : m0 < rows.length := by omega
      have hw1 : wrap64 ((e : Int) + 1) = (m1 : Int) := by unfold wrap64; omega
      have HW2 : Aside0 (wrap64 ((e : Int) + 2) = (e2 : Int)) := ⟨by unfold wrap64; omega⟩
      have HW3 : Aside0 ((e : Int) + 2 = (e2 : Int)) := ⟨by omega⟩
      have HE2 : Aside0 (e2 = 2 * (q + 1) ∧ e2 ≤ rows.length + 1 ∧ e < e2) := ⟨by omega⟩
      have HDQ : Aside0 (dp rows q = prs rows q) := ⟨dp_in rows q (by omega)⟩
      have b0 : (e < rows.length) = True := eq_true hlt
      obtain ⟨pre, hpre⟩ : ∃ p, p = prs rows q := ⟨_, rfl⟩
      have hpl : Aside0 (pre.length ≤ 1099511627776) := ⟨by rw [hpre, prs_len]; omega⟩
      rw [HDQ.out, ← hpre] at HH
      have RR : Aside0 (HRead (some ad) rows wr) := ⟨hread_below HIN.out D0.out⟩
      by_cases hpair : m1 < rows.length
      · have hm1 := hpair
        have b1 : ((m1 : Int) < (rows.length : Int)) = True := eq_true (by omega)
        have b3 : (m1 < rows.length) = True := eq_true hm1
        have b4 : ((e : Int) + 1 < (rows.length : Int)) = True := eq_true (by omega)
        obtain ⟨S, hS⟩ : ∃ S, S = nodeF (rows.getD m0 []) (rows.getD m1 []) := ⟨_, rfl⟩
        have hS32 : S.length = 32 := by rw [hS]; exact nodeF_len _ _
        have hl0 := hread_len HIN.out m0 hm0
        have hl1 := hread_len HIN.out m1 hm1
        have HN : ∀ W : World, Calls Try.prog 15 #[.agg (brw 32 (rows.getD m0 [])), .agg (brw 32 (rows.getD m1 []))] W fun e w' => e = .returned (.agg (brw 32 S)) ∧ Below W.heap.size W w' := fun W => by
          rw [← B32_brw _ hl0, ← B32_brw _ hl1, ← B32_brw S hS32, hS]; exact rnode_calls _ _ hl0 hl1 W
        have HPS : Aside0 (dp rows (q + 1) = pre ++ [S]) := ⟨by rw [dp_in rows (q + 1) (by omega), prs_succ, hpre, hS, hm0e, hm1e, he]⟩
        clear hpre hS hm1e hl0 hl1 he he2 hle
        subst hm0e
        go_upto_region 6 with (fail)
        refine start_ (n := 14) (S := fun W => HRead (some ad) rows W) (ds := []) #[false, false, false, false, false, false, false, false, false, false, false, false, false, false] (by kernel_rfl) rfl rfl (hread_below RR.out (below_drew1 (Below.refl _ _))) (fun hHeld => ?_); refine with_tabW rab.tab6 rab.bits6 (fun HT_ HW_ => ?_)
        have n_RR := Aside0.mk (hread_below RR.out (below_drew1 (Below.refl _ _)))
        have n_HH := Aside0.mk (hrow_below HH.out (below_drew1 (Below.refl _ _)))
        have n_D0 := Aside0.mk (below_drew1 D0.out)
        clear RR HH D0
        have RR := n_RR
        have HH := n_HH
        have D0 := n_D0
        clear n_RR n_HH n_D0
        generalize World.drew _ = wR at RR HH D0 hHeld ⊢
        refine pure_ (i := 0) (N := some 16) (v := ?_) (a' := ?_) #[true, false, false, false, false, false, false, false, false, false, false, false, false, false] rfl rfl (any_of HT_.out (by kernel_rfl)) (fun _ _ _ h => h) (Or.inl ⟨by rfl, ?_⟩) ?_ ?_
        rotate_left
        · intro w'
          go_simp
          with_reducible rfl
        rotate_left
        · simp only [Act.put, List.setIfInBounds_toArray, List.set_cons_zero, List.set_cons_succ, i64_w, i32_w]
          rfl
        refine pure_ (i := 1) (N := some 17) (v := ?_) (a' := ?_) #[true, true, false, false, false, false, false, false, false, false, false, false, false, false] rfl rfl (any_of HT_.out (by kernel_rfl)) (fun _ _ _ h => h) (Or.inl ⟨by rfl, ?_⟩) ?_ ?_
        rotate_left
        · intro w'
          go_simp
          with_reducible rfl
        rotate_left
        · simp only [Act.put, List.setIfInBounds_toArray, List.set_cons_zero, List.set_cons_succ, i64_w, i32_w]
          rfl
        refine pure_ (i := 2) (N := some 18) (v := ?_) (a' := ?_) #[true, true, true, false, false, false, false, false, false, false, false, false, false, false] rfl rfl (any_of HT_.out (by kernel_rfl)) (fun _ _ _ h => h) (Or.inl ⟨by rfl, ?_⟩) ?_ ?_
        rotate_left
        · intro w'
          go_simp
          with_reducible rfl
        rotate_left
        · simp only [Act.put, List.setIfInBounds_toArray, List.set_cons_zero, List.set_cons_succ, i64_w, i32_w]
          rfl
        refine pure_ (i := 3) (N := some 19) (v := ?_) (a' := ?_) #[true, true, true, true, false, false, false, false, false, false, false, false, false, false] rfl rfl (any_of HT_.out (by kernel_rfl)) (fun _ _ _ h => h) (Or.inl ⟨by rfl, ?_⟩) ?_ ?_
        rotate_left
        · intro w'
          go_simp
          with_reducible rfl
        rotate_left
        · simp only [Act.put, List.setIfInBounds_toArray, List.set_cons_zero, List.set_cons_succ, i64_w, i32_w]
          rfl
        refine pure_ (i := 5) (N := some 21) (v := ?_) (a' := ?_) #[true, true, true, true, false, true, false, false, false, false, false, false, false, false] rfl rfl (any_of HT_.out (by kernel_rfl)) (fun _ _ _ h => h) (Or.inl ⟨by rfl, ?_⟩) ?_ ?_
        rotate_left
        · intro w'
          go_simp
          with_reducible rfl
        rotate_left
        · simp only [Act.put, List.setIfInBounds_toArray, List.set_cons_zero, List.set_cons_succ, i64_w, i32_w]
          rfl
        refine pure_ (i := 6) (N := some 22) (v := ?_) (a' := ?_) #[true, true, true, true, false, true, true, false, false, false, false, false, false, false] rfl rfl (any_of HT_.out (by kernel_rfl)) (fun _ _ _ h => h) (Or.inl ⟨by rfl, ?_⟩) ?_ ?_
        rotate_left
        · intro w'
          go_simp
          with_reducible rfl
        rotate_left
        · simp only [Act.put, List.setIfInBounds_toArray, List.set_cons_zero, List.set_cons_succ, i64_w, i32_w]
          rfl
        refine pure_ (i := 7) (N := some 23) (v := ?_) (a' := ?_) #[true, true, true, true, false, true, true, true, false, false, false, false, false, false] rfl rfl (any_of HT_.out (by kernel_rfl)) (fun _ _ _ h => h) (Or.inl ⟨by rfl, ?_⟩) ?_ ?_
        rotate_left
        · intro w'
          go_simp
          with_reducible rfl
        rotate_left
        · simp only [Act.put, List.setIfInBounds_toArray, List.set_cons_zero, List.set_cons_succ, i64_w, i32_w]
          rfl
        refine pure_ (i := 8) (N := some 24) (v := ?_) (a' := ?_) #[true, true, true, true, false, true, true, true, true, false, false, false, false, false] rfl rfl (any_of HT_.out (by kernel_rfl)) (fun _ _ _ h => h) (Or.inl ⟨by rfl, ?_⟩) ?_ ?_
        rotate_left
        · intro w'
          go_simp
          with_reducible rfl
        rotate_left
        · simp only [Act.put, List.setIfInBounds_toArray, List.set_cons_zero, List.set_cons_succ, i64_w, i32_w]
          rfl
        refine take_ (i := 4) (N := some 20) (v := ?_) (a' := ?_) #[true, true, true, true, true, true, true, true, true, false, false, false, false, false] rfl rfl (take_ofW HT_.out HW_.out (by kernel_rfl)) (fun _ _ _ h => h) (Or.inl ⟨by rfl, ?_⟩) hHeld ?_ ?_
        rotate_left
        · intro w' s0
          refine exec_load_hash (.tmp 19) ?_ (ad.add (m0 * 32)) ?_ (rows.getD m0 []) (hread_len s0 m0 hm0) (hread_at s0 m0 hm0) <;> rfl
        rotate_left
        · simp only [Act.put, List.setIfInBounds_toArray, List.set_cons_zero, List.set_cons_succ, i64_w, i32_w]
          rfl
        refine take_ (i := 9) (N := some 25) (v := ?_) (a' := ?_) #[true, true, true, true, true, true, true, true, true, true, false, false, false, false] rfl rfl (take_ofW HT_.out HW_.out (by kernel_rfl)) (fun _ _ _ h => h) (Or.inl ⟨by rfl, ?_⟩) hHeld ?_ ?_
        rotate_left
        · intro w' s0
          refine exec_load_hash (.tmp 24) ?_ (ad.add (m1 * 32)) ?_ (rows.getD m1 []) (hread_len s0 m1 hm1) (hread_at s0 m1 hm1) <;> rfl
        rotate_left
        · simp only [Act.put, List.setIfInBounds_toArray, List.set_cons_zero, List.set_cons_succ, i64_w, i32_w]
          rfl
        refine one_ (i := 10) (N := some 26) #[true, true, true, true, true, true, true, true, true, true, true, false, false, false] rfl rfl (one_of HT_.out (by kernel_rfl)) (by decide) (fun K hK => ?_)
        refine goes_ Try.func15 (by kernel_rfl) rfl #[.agg (brw 32 (rows.getD m0 [])), .agg (brw 32 (rows.getD m1 []))] (by rfl) rfl rfl (by (try simp only [List.map_toArray, List.map_cons, List.map_nil]); first | done | rfl) ?_
        with_reducible refine (HN _).mono ?_
        rintro e w2 ⟨rfl, hb⟩
        refine ⟨_, rfl, ?_⟩
        have n_RR := Aside0.mk (hread_below RR.out (hb))
        have n_HH := Aside0.mk (hrow_below HH.out (hb))
        have n_D0 := Aside0.mk (below_then D0.out D0.out.size hb)
        clear RR HH D0
        have RR := n_RR
        have HH := n_HH
        have D0 := n_D0
        clear n_RR n_HH n_D0
        clear hb
        refine hK.out _ _ RR.out (fun hHeld => ?_)
        clear hK K
        refine norm_ (a' := ?_) ?_ ?_
        rotate_left
        · show Act.put _ (some 26) _ = _
          simp only [Act.put, List.setIfInBounds_toArray, List.set_cons_zero, List.set_cons_succ, i64_w, i32_w]
          rfl
        refine one_ (i := 11) (N := some 27) #[true, true, true, true, true, true, true, true, true, true, true, true, false, false] rfl rfl (one_of HT_.out (by kernel_rfl)) (by decide) (fun K hK => ?_)
        refine value_ (w1 := _) (v := _) (by rfl) rfl (exec_build1 (.tmp 26) rfl S hS32 (by rfl)) ?_
        have CB := Aside0.mk (blk_new w2 (.cells (brw 32 S) 23))
        have n_RR := Aside0.mk (hread_below RR.out (below_alloc (Below.refl _ _) (.cells (brw 32 S) 23)))
        have n_HH := Aside0.mk (hrow_below HH.out (below_alloc (Below.refl _ _) (.cells (brw 32 S) 23)))
        have n_D0 := Aside0.mk (below_alloc D0.out (.cells (brw 32 S) 23))
        clear RR HH D0
        have RR := n_RR
        have HH := n_HH
        have D0 := n_D0
        clear n_RR n_HH n_D0
        refine hK.out _ _ RR.out (fun hHeld => ?_)
        clear hK K
        refine norm_ (a' := ?_) ?_ ?_
        rotate_left
        · show Act.put _ (some 27) _ = _
          simp only [Act.put, List.setIfInBounds_toArray, List.set_cons_zero, List.set_cons_succ, i64_w, i32_w]
          rfl
        refine one_ (i := 12) (N := some 28) #[true, true, true, true, true, true, true, true, true, true, true, true, true, false] rfl rfl (one_of HT_.out (by kernel_rfl)) (by decide) (fun K hK => ?_)
        obtain ⟨v2, w3, hr1, hr2, hr3⟩ := append_hrow w.heap.size _ pre S hS32 w _ w2.heap.size 1 HH.out D0.out D0.out.size CB.out hpl.out
        refine value_ (w1 := w3) (v := v2) (by rfl) rfl (exec_append31 (.tmp 16) (.tmp 27) rfl rfl _ _ rfl rfl hr1) ?_
        have n_RR : Aside0 (HRead (some ad) rows w3) := ⟨hread_below HIN.out hr3⟩
        have n_HH := Aside0.mk hr2
        have n_D0 := Aside0.mk hr3
        clear RR HH D0 CB hr1 hr2 hr3
        have RR := n_RR
        have HH := n_HH
        have D0 := n_D0
        clear n_RR n_HH n_D0
        refine hK.out _ _ RR.out (fun hHeld => ?_)
        clear hK K
        refine norm_ (a' := ?_) ?_ ?_
        rotate_left
        · show Act.put _ (some 28) _ = _
          simp only [Act.put, List.setIfInBounds_toArray, List.set_cons_zero, List.set_cons_succ, i64_w, i32_w]
          rfl
        refine pure_ (i := 13) (N := some 3) (v := ?_) (a' := ?_) #[true, true, true, true, true, true, true, true, true, true, true, true, true, true] rfl rfl (any_of HT_.out (by kernel_rfl)) (fun _ _ _ h => h) (Or.inl ⟨by rfl, ?_⟩) ?_ ?_
        rotate_left
        · intro w'
          go_simp
          with_reducible rfl
        rotate_left
        · simp only [Act.put, List.setIfInBounds_toArray, List.set_cons_zero, List.set_cons_succ, i64_w, i32_w]
          rfl
        refine done_ (done_of HT_.out (by kernel_rfl)) ?_
        go_wp2
        go_roundw
        case rel => exact ⟨q + 1, e2, HE2.out.1, HE2.out.2.1, congrArg (Value.int .i64) (by first | exact HW2.out | exact HW3.out), ⟨by rw [HPS.out]; exact HH.out⟩, D0⟩
        case measure =>
          first | rw [HW2.out] | rw [HW3.out]
          simp only [intOf, Int.toNat_natCast]
          have := HE2.out
          omega
      · have b1 : ((m1 : Int) < (rows.length : Int)) = False := eq_false (by omega)
        have b4 : ((e : Int) + 1 < (rows.length : Int)) = False := eq_false (by omega)
        have b3 : (m1 < rows.length) = False := eq_false hpair
        obtain ⟨S, hS⟩ : ∃ S, S = rows.getD e [] := ⟨_, rfl⟩
        have hS32 : S.length = 32 := by rw [hS]; exact hread_len HIN.out e hlt
        have hat := hread_at RR.out e hlt
        rw [← hS] at hat
        have HAB : Aside0 (dp rows (q + 1) = pre ++ [S]) := ⟨by
          rw [dp_end rows (q + 1) (by omega) (by omega)]
          unfold abv
          rw [if_pos (by omega), show rows.length - 1 = e by omega, ← hS, hpre, show rows.length / 2 = q by omega]⟩
        have HAT := Aside0.mk hat
        clear hpre hS hm1e he he2 hle hat
        subst hm0e
        go_wp2_with (first
          | ((with_reducible refine gate_dst (N := 33) rfl ?_); refine wpList_load_hash rfl (.tmp 32) rfl (ad.add (m0 * 32)) rfl S hS32 HAT.out ?_)
          | ((with_reducible refine gate_dst (N := 34) rfl ?_); refine Kd.event_run rfl (exec_build1 (.tmp 33) rfl S hS32 (by rfl)) ?_)
          | ((with_reducible refine gate_dst (N := 35) rfl ?_); obtain ⟨v2, w3, hr1, hr2, hr3⟩ := append_hrow w.heap.size _ pre S hS32 w _ wr.heap.size 1 (hrow_below HH.out (below_alloc (Below.refl _ _) (.cells (brw 32 S) 23))) (below_alloc D0.out (.cells (brw 32 S) 23)) (below_alloc D0.out (.cells (brw 32 S) 23)).size (blk_new wr (.cells (brw 32 S) 23)) hpl.out; refine Kd.event_run rfl (exec_append31 (.tmp 29) (.tmp 34) rfl rfl _ _ rfl rfl hr1) ?_; have HH2 := Aside0.mk hr2; have D2 := Aside0.mk hr3; clear hr1 hr2 hr3))
        refine ⟨⟨q + 1, e2, HE2.out.1, HE2.out.2.1, congrArg (Value.int .i64) (by first | exact HW2.out | exact HW3.out), ⟨by rw [HAB.out]; exact HH2.out⟩, D2⟩, ?_⟩
        first | rw [HW2.out] | rw [HW3.out]
        simp only [intOf, Int.toNat_natCast]
        have := HE2.out
        omega
    · have q1 : ((e : Int) < (rows.length : Int)) = False := eq_false (by omega)
      have b0 : (e < rows.length) = False := eq_false hlt
      have HAB : Aside0 (dp rows q = abv rows) := ⟨dp_end rows q (by omega) (by omega)⟩
      go_wp2
      go_ret
      exact ⟨_, rfl, by rw [← HAB.out]; exact HH.out, D0.out⟩
end Go.Proofs.Ythpnppfpmhlkaaa.Sha
