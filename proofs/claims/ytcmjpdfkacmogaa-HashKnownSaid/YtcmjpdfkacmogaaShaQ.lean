/- Chapter 2: the document's Hex. -/
import Derived.Test.YtcmjpdfkacmogaaShaL
import Derived.Test.YtcmjpdfkacmogaaShaM
namespace Go.Proofs.Ytcmjpdfkacmogaa.Sha
open Go.RowKit Go.Proofs.Ytcmjpdfkacmogaa.X Go.Proofs.YtcmjpdfkacmogaaW.PrintWords Go.Proofs.YtcmjpdfkacmogaaW.PrintLast Go.Proofs.YtcmjpdfkacmogaaW.PrintMore
set_option linter.unusedVariables false
set_option linter.unusedSimpArgs false

def dhx.T5 : Bool × List (List Nat × List Nat) := (true, [([], []), ([], []), ([1], [1]), ([2], [2]), ([3], [3]), ([4], [4]), ([], []), ([6], [6]), ([7], [7]), ([8], [8]), ([9], [9]), ([5, 10], [5, 10]), ([0, 11], [0, 11]), ([12, 12, 0, 1, 2, 3, 4, 5, 6, 7, 8, 9, 10, 11, 12], [0, 12])])
def dhx.B5 : List Nat := [0, 0, 2, 6, 14, 30, 0, 64, 192, 448, 960, 2046, 4095, 8191]
theorem dhx.tab5 : rtab .any (opsOf Try.f19 5) = dhx.T5 := by kernel_rfl
theorem dhx.bits5 : waitsOk dhx.T5.2 dhx.B5 = true := by kernel_rfl
theorem exec_append {o : Oper} {f : Operand → Value} {W W' : World} {v' : Value} (s x : Operand) (ho : o.op = .call { callee := .builtin .append, args := #[s, x], argTypes := #[43, 43] }) (hty : o.type = 43) (v u : Value) (hs : f s = v) (hx : f x = u)
    (hr : (Builtin.append_ #[43, 43] 43 #[v, u]).run Try.prog W = .ok v' W') : (execOp f o).run Try.prog W = .ok (.value v') W' := by
  unfold execOp
  simp only [ho, hty, resolve, invoke, builtin, Sem.run_bind, Sem.run_pure, Result.andThen_ok, List.map_toArray, List.map_cons, List.map_nil, hs, hx, hr]
theorem two_cells (W : World) (d1 d2 : UInt8) : ∀ j u, (Lib.byteCells [d1, d2])[j]? = some u → (W.alloc (.cells #[.int .u8 d1.toNat, .int .u8 d2.toNat] 5)).cell? ((⟨W.heap.size, 0, none⟩ : Addr).add j) = some u := by
  intro j u hj
  have hadd : (⟨W.heap.size, 0, none⟩ : Addr).add j = ⟨W.heap.size, j, none⟩ := by unfold Addr.add; split <;> simp_all
  rw [hadd, blk_cell (blk_new W _)]
  match j, hj with
  | 0, hj => simp [Lib.byteCells] at hj; subst hj; rfl
  | 1, hj => simp [Lib.byteCells] at hj; subst hj; rfl
  | j + 2, hj => simp [Lib.byteCells] at hj
theorem wrap_sixteenth (c : UInt8) : IntKind.u8.wrap ((c.toNat : Int) / 16) = ((c.toNat / 16 : Nat) : Int) := by
  have w : ∀ n : Int, IntKind.u8.wrap n = n % 256 := fun _ => rfl
  have := c.toNat_lt
  rw [w]; omega
theorem tmod_sixteen (c : UInt8) : (c.toNat : Int).tmod 16 = ((c.toNat % 16 : Nat) : Int) := by
  rw [Int.tmod_eq_emod_of_nonneg (by omega)]; omega
theorem orow_text {base : Nat} {v : Value} {l : List UInt8} {W : World} (h : ORow base v l W) (h0 : l ≠ []) : (convert 43 9 v).run Try.prog W = .ok (.string (tx l)) W := by
  rcases h.2 with ⟨_, h1⟩ | ⟨g, cap, cur, rfl, hg, hh, hcap, hmax, hsz, htk⟩
  · exact absurd (List.eq_nil_of_length_eq_zero h1) h0
  · refine run_convert_bytes_back W 43 9 5 _ cap l Try.underlying43 Try.underlying5 Try.underlying9 (fun j hj => ?_)
    have hadd : (⟨g, 0, none⟩ : Addr).add j = ⟨g, j, none⟩ := by unfold Addr.add; split <;> simp_all
    rw [hadd, blk_cell hh, ← Array.getElem?_toList]
    have h1 : (cur.toList.take (l.length * 1))[j]? = (Lib.byteCells l)[j]? := by rw [htk]
    rw [List.getElem?_take, if_pos (by omega)] at h1
    rw [h1]
    simp [Lib.byteCells, List.getElem?_eq_getElem hj]
theorem blk_old {w0 W W' : World} {base g : Nat} {o : Obj} (h : W.heap[g]? = some o) (hb : Below base w0 W') (hg : w0.heap[g]? = some o ∧ g < base) : W'.heap[g]? = some o := (hb.block g hg.2).trans hg.1
set_option maxHeartbeats 8000000 in
set_option maxRecDepth 100000 in
theorem rhex_calls (l : List UInt8) (hl : l.length = 32) (w : World) :
    Calls Try.prog 19 #[B32 l] w fun e w' => e = .returned (.string (tx (hexF l))) ∧ Below w.heap.size w w' := by
  have i24 : (Try.prog.info? 24).map (·.size) = some 32 := by kernel_rfl
  have hB : B32 l = .agg (brw 32 l) := by unfold B32; rw [row_of_bytes l hl]
  have hz : (brw 32 l).size = 32 := brw_size 32 l (by omega)
  rw [hB]
  clear hB
  go_enter Try.func19, Try.ntmps19
  go_upto_region 1 with (fail)
  change Code.wp _ _ _ _ (w.alloc (.cells (brw 32 l) 24))
  have C1 : Aside0 ((w.alloc (.cells (brw 32 l) 24)).heap[w.heap.size]? = some (.cells (brw 32 l) 24 (0, 0))) := ⟨blk_new _ _⟩
  have D1 := Aside0.mk (below_alloc (Below.refl w.heap.size w) (.cells (brw 32 l) 24))
  generalize w.alloc (.cells (brw 32 l) 24) = w1 at C1 D1 ⊢
  obtain ⟨g1, hg1⟩ : ∃ g, g = w.heap.size := ⟨_, rfl⟩
  have P1 : (Value.pointer (some ⟨w.heap.size, 0, none⟩)) = .pointer (some ⟨g1, 0, none⟩) := by rw [hg1]
  rw [P1]
  rw [← hg1] at C1
  have G1 : Aside0 (w1.heap[g1]? = some (.cells (brw 32 l) 24 (0, 0)) ∧ g1 < w1.heap.size) := ⟨C1.out, blk_lt C1.out⟩
  clear P1 hg1
  go_wp2
  go_loopw [3, 4] (fun v k W => ∃ i : Nat, i ≤ 32 ∧ k = .int .i64 i ∧ Aside0 (ORow w1.heap.size v (hexF (l.take i)) W) ∧ Aside0 (W.heap[g1]? = some (.cells (brw 32 l) 24 (0, 0))) ∧ Aside0 (Below w1.heap.size w1 W)) (fun _ k _ => 32 - (intOf k).toNat)
  case atStart => exact ⟨0, Nat.zero_le _, rfl, ⟨orow_nil _ _⟩, C1, ⟨Below.refl _ _⟩⟩
  case round =>
    clear C1
    obtain ⟨i, hi, rfl, RR, C1, DD⟩ := hrel
    by_cases hlt : i < 32
    · have q : ((i : Int) < 32) = True := eq_true (by omega)
      have q2 : (32 ≤ i) = False := eq_false (by omega)
      obtain ⟨c, hc⟩ : ∃ c, c = l.getD i 0 := ⟨_, rfl⟩
      have hcell : Aside0 ((brw 32 l)[i]? = some (.int .u8 c.toNat)) := ⟨by rw [hc]; exact brw_at 32 l i (by omega)⟩
      have hcl := c.toNat_lt
      have h1 := run_digit (c.toNat / 16) (by omega) (IntKind.u8.wrap ((c.toNat : Int) / 16)) (wrap_sixteenth c)
      have h2 := run_digit (c.toNat % 16) (by omega) ((c.toNat : Int).tmod 16) (tmod_sixteen c)
      have HS : Aside0 (hexF (l.take (i + 1)) = hexF (l.take i) ++ [hexd (c.toNat / 16), hexd (c.toNat % 16)]) := ⟨by
        have := hexF_snoc (l.take i) c
        rw [List.append_assoc] at this
        refine Eq.trans ?_ this
        congr 1
        rw [List.take_add_one, hc, List.getD_eq_getElem?_getD, List.getElem?_eq_getElem (by omega)]; rfl⟩
      clear hc
      obtain ⟨d1, hd1⟩ : ∃ d, d = hexd (c.toNat / 16) := ⟨_, rfl⟩
      obtain ⟨d2, hd2⟩ : ∃ d, d = hexd (c.toNat % 16) := ⟨_, rfl⟩
      rw [← hd1] at h1
      rw [← hd2] at h2
      rw [← hd1, ← hd2] at HS
      clear hd1 hd2
      have HN : Aside0 ((hexF (l.take i)).length + [d1, d2].length ≤ 140737488356000) := ⟨by rw [hexF_len, List.length_take]; simp; omega⟩
      obtain ⟨L0, hL0⟩ : ∃ L, L = hexF (l.take i) := ⟨_, rfl⟩
      rw [← hL0] at RR HN HS
      clear hL0
      go_upto_region 5 with (fail)
      refine start_ (n := 14) (S := fun W => W.heap[g1]? = some (.cells (brw 32 l) 24 (0, 0))) (ds := []) #[false, false, false, false, false, false, false, false, false, false, false, false, false, false] (by kernel_rfl) rfl rfl (blk_drew C1.out) (fun hHeld => ?_); refine with_tabW dhx.tab5 dhx.bits5 (fun HT_ HW_ => ?_)
      have n_C1 := Aside0.mk (blk_drew C1.out)
      have n_RR := Aside0.mk (orow_below RR.out (below_drew1 (Below.refl _ _)))
      have n_DD := Aside0.mk (below_drew1 DD.out)
      clear C1 RR DD
      have C1 := n_C1
      have RR := n_RR
      have DD := n_DD
      clear n_C1 n_RR n_DD
      generalize World.drew _ = wR at C1 RR DD hHeld ⊢
      refine pure_ (i := 0) (N := some 9) (v := ?_) (a' := ?_) #[true, false, false, false, false, false, false, false, false, false, false, false, false, false] rfl rfl (any_of HT_.out (by kernel_rfl)) (fun _ _ _ h => h) (Or.inl ⟨by rfl, ?_⟩) ?_ ?_
      rotate_left
      · intro w'
        go_simp
        with_reducible rfl
      rotate_left
      · simp only [Act.put, List.setIfInBounds_toArray, List.set_cons_zero, List.set_cons_succ, i64_w, i32_w]
        rfl
      refine pure_ (i := 1) (N := some 10) (v := ?_) (a' := ?_) #[true, true, false, false, false, false, false, false, false, false, false, false, false, false] rfl rfl (any_of HT_.out (by kernel_rfl)) (fun _ _ _ h => h) (Or.inl ⟨by rfl, ?_⟩) ?_ ?_
      rotate_left
      · intro w'
        go_simp
        with_reducible rfl
      rotate_left
      · simp only [Act.put, List.setIfInBounds_toArray, List.set_cons_zero, List.set_cons_succ, i64_w, i32_w]
        rfl
      refine pure_ (i := 2) (N := some 11) (v := ?_) (a' := ?_) #[true, true, true, false, false, false, false, false, false, false, false, false, false, false] rfl rfl (any_of HT_.out (by kernel_rfl)) (fun _ _ _ h => h) (Or.inl ⟨by rfl, ?_⟩) ?_ ?_
      rotate_left
      · intro w'
        go_simp
        with_reducible rfl
      rotate_left
      · simp only [Act.put, List.setIfInBounds_toArray, List.set_cons_zero, List.set_cons_succ, i64_w, i32_w]
        rfl
      refine pure_ (i := 6) (N := some 15) (v := ?_) (a' := ?_) #[true, true, true, false, false, false, true, false, false, false, false, false, false, false] rfl rfl (any_of HT_.out (by kernel_rfl)) (fun _ _ _ h => h) (Or.inl ⟨by rfl, ?_⟩) ?_ ?_
      rotate_left
      · intro w'
        go_simp
        with_reducible rfl
      rotate_left
      · simp only [Act.put, List.setIfInBounds_toArray, List.set_cons_zero, List.set_cons_succ, i64_w, i32_w]
        rfl
      refine pure_ (i := 7) (N := some 16) (v := ?_) (a' := ?_) #[true, true, true, false, false, false, true, true, false, false, false, false, false, false] rfl rfl (any_of HT_.out (by kernel_rfl)) (fun _ _ _ h => h) (Or.inl ⟨by rfl, ?_⟩) ?_ ?_
      rotate_left
      · intro w'
        go_simp
        with_reducible rfl
      rotate_left
      · simp only [Act.put, List.setIfInBounds_toArray, List.set_cons_zero, List.set_cons_succ, i64_w, i32_w]
        rfl
      refine take_ (i := 3) (N := some 12) (v := ?_) (a' := ?_) #[true, true, true, true, false, false, true, true, false, false, false, false, false, false] rfl rfl (take_ofW HT_.out HW_.out (by kernel_rfl)) (fun _ _ _ h => h) (Or.inl ⟨by rfl, ?_⟩) hHeld ?_ ?_
      rotate_left
      · intro w' s0
        have y0 : w'.cell? ⟨g1, i, none⟩ = some (.int .u8 c.toNat) := (blk_cell s0 i).trans hcell.out
        go_simp
        with_reducible rfl
      rotate_left
      · simp only [Act.put, List.setIfInBounds_toArray, List.set_cons_zero, List.set_cons_succ, i64_w, i32_w]
        rfl
      refine take_ (i := 8) (N := some 17) (v := ?_) (a' := ?_) #[true, true, true, true, false, false, true, true, true, false, false, false, false, false] rfl rfl (take_ofW HT_.out HW_.out (by kernel_rfl)) (fun _ _ _ h => h) (Or.inl ⟨by rfl, ?_⟩) hHeld ?_ ?_
      rotate_left
      · intro w' s0
        have y0 : w'.cell? ⟨g1, i, none⟩ = some (.int .u8 c.toNat) := (blk_cell s0 i).trans hcell.out
        go_simp
        with_reducible rfl
      rotate_left
      · simp only [Act.put, List.setIfInBounds_toArray, List.set_cons_zero, List.set_cons_succ, i64_w, i32_w]
        rfl
      refine pure_ (i := 4) (N := some 13) (v := ?_) (a' := ?_) #[true, true, true, true, true, false, true, true, true, false, false, false, false, false] rfl rfl (any_of HT_.out (by kernel_rfl)) (fun _ _ _ h => h) (Or.inl ⟨by rfl, ?_⟩) ?_ ?_
      rotate_left
      · intro w'
        go_simp
        with_reducible rfl
      rotate_left
      · simp only [Act.put, List.setIfInBounds_toArray, List.set_cons_zero, List.set_cons_succ, i64_w, i32_w]
        rfl
      refine pure_ (i := 5) (N := some 14) (v := ?_) (a' := ?_) #[true, true, true, true, true, true, true, true, true, false, false, false, false, false] rfl rfl (any_of HT_.out (by kernel_rfl)) (fun _ _ _ h => h) (Or.inl ⟨by rfl, ?_⟩) ?_ ?_
      rotate_left
      · intro w'
        go_simp
        with_reducible rfl
      rotate_left
      · simp only [Act.put, List.setIfInBounds_toArray, List.set_cons_zero, List.set_cons_succ, i64_w, i32_w]
        rfl
      refine pure_ (i := 9) (N := some 18) (v := ?_) (a' := ?_) #[true, true, true, true, true, true, true, true, true, true, false, false, false, false] rfl rfl (any_of HT_.out (by kernel_rfl)) (fun _ _ _ h => h) (Or.inl ⟨by rfl, ?_⟩) ?_ ?_
      rotate_left
      · intro w'
        go_simp
        with_reducible rfl
      rotate_left
      · simp only [Act.put, List.setIfInBounds_toArray, List.set_cons_zero, List.set_cons_succ, i64_w, i32_w]
        rfl
      refine pure_ (i := 10) (N := some 19) (v := ?_) (a' := ?_) #[true, true, true, true, true, true, true, true, true, true, true, false, false, false] rfl rfl (any_of HT_.out (by kernel_rfl)) (fun _ _ _ h => h) (Or.inl ⟨by rfl, ?_⟩) ?_ ?_
      rotate_left
      · intro w'
        go_simp
        with_reducible rfl
      rotate_left
      · simp only [Act.put, List.setIfInBounds_toArray, List.set_cons_zero, List.set_cons_succ, i64_w, i32_w]
        rfl
      refine one_ (i := 11) (N := some 20) #[true, true, true, true, true, true, true, true, true, true, true, true, false, false] rfl rfl (one_of HT_.out (by kernel_rfl)) (by decide) (fun K hK => ?_)
      refine value_ (w1 := ?_) (v := ?_) (by rfl) rfl ?_ ?_
      rotate_left 2
      · go_simp
        constructor
        · rfl
        · rfl
      have XX := Aside0.mk (two_cells wR d1 d2)
      have n_C1 := Aside0.mk (blk_below C1.out (below_alloc (Below.refl _ _) (.cells #[.int .u8 d1.toNat, .int .u8 d2.toNat] 5)))
      have n_RR := Aside0.mk (orow_below RR.out (below_alloc (Below.refl _ _) (.cells #[.int .u8 d1.toNat, .int .u8 d2.toNat] 5)))
      have n_DD := Aside0.mk (below_alloc DD.out (.cells #[.int .u8 d1.toNat, .int .u8 d2.toNat] 5))
      clear C1 RR DD
      have C1 := n_C1
      have RR := n_RR
      have DD := n_DD
      clear n_C1 n_RR n_DD
      refine hK.out _ _ C1.out (fun hHeld => ?_)
      clear hK K
      refine norm_ (a' := ?_) ?_ ?_
      rotate_left
      · show Act.put _ (some 20) _ = _
        simp only [Act.put, List.setIfInBounds_toArray, List.set_cons_zero, List.set_cons_succ, i64_w, i32_w]
        rfl
      refine one_ (i := 12) (N := some 21) #[true, true, true, true, true, true, true, true, true, true, true, true, true, false] rfl rfl (one_of HT_.out (by kernel_rfl)) (by decide) (fun K hK => ?_)
      obtain ⟨v2, w2, hr1, hr2, hr3⟩ := append_orow w1.heap.size _ L0 [d1, d2] w1 _ ⟨wR.heap.size, 0, none⟩ 2 RR.out DD.out DD.out.size XX.out HN.out
      refine value_ (w1 := w2) (v := v2) (by rfl) rfl (exec_append (.tmp 9) (.tmp 20) rfl rfl _ _ rfl rfl hr1) ?_
      have n_C1 := Aside0.mk (blk_old C1.out hr3 G1.out)
      have RR2 := Aside0.mk hr2
      have DD2 := Aside0.mk hr3
      clear C1 RR DD XX hr1 hr2 hr3
      have C1 := n_C1
      clear n_C1
      refine hK.out _ _ C1.out (fun hHeld => ?_)
      clear hK K
      refine norm_ (a' := ?_) ?_ ?_
      rotate_left
      · show Act.put _ (some 21) _ = _
        simp only [Act.put, List.setIfInBounds_toArray, List.set_cons_zero, List.set_cons_succ, i64_w, i32_w]
        rfl
      refine pure_ (i := 13) (N := some 3) (v := ?_) (a' := ?_) #[true, true, true, true, true, true, true, true, true, true, true, true, true, true] rfl rfl (any_of HT_.out (by kernel_rfl)) (fun _ _ _ h => h) (Or.inl ⟨by rfl, ?_⟩) ?_ ?_
      rotate_left
      · intro w'
        go_simp
        with_reducible rfl
      rotate_left
      · simp only [Act.put, List.setIfInBounds_toArray, List.set_cons_zero, List.set_cons_succ, i64_w, i32_w]
        rfl
      refine done_ (done_of HT_.out (by kernel_rfl)) ?_
      go_wp2
      go_roundw
      case rel => exact ⟨i + 1, by omega, by go_num, ⟨by rw [HS.out]; exact RR2.out⟩, C1, DD2⟩
      case measure => simp [intOf]; omega
    · obtain rfl : i = 32 := by omega
      have HE : Aside0 (hexF (l.take 32) = hexF l) := ⟨by rw [List.take_of_length_le (by omega)]⟩
      have hne : hexF (l.take 32) ≠ [] := by
        intro h
        have := congrArg List.length h
        rw [hexF_len, List.length_take] at this
        simp at this; omega
      have htext := orow_text RR.out hne
      go_wp2
      go_ret
      exact ⟨by rw [HE.out]; rfl, below_then D1.out D1.out.size DD.out⟩
end Go.Proofs.Ytcmjpdfkacmogaa.Sha
