/- Chapter 3: the law's helpers. -/
import Derived.Test.YthpnppfpmhlkaaaMkK
namespace Go.Proofs.Ythpnppfpmhlkaaa.Sha
open Go.RowKit Go.Proofs.Ythpnppfpmhlkaaa.X Go.Proofs.YthpnppfpmhlkaaaW.PrintWords Go.Proofs.YthpnppfpmhlkaaaW.PrintLast Go.Proofs.YthpnppfpmhlkaaaW.PrintMore
set_option linter.unusedVariables false
set_option linter.unusedSimpArgs false

def stx.T6 : Bool × List (List Nat × List Nat) := (true, [([], []), ([], []), ([0, 1], [0, 1]), ([2], [2]), ([], []), ([], []), ([4, 5], [4, 5]), ([6], [6]), ([3, 7], [3, 7])])
def stx.B6 : List Nat := [0, 0, 3, 7, 0, 0, 48, 112, 255]
theorem stx.tab6 : rtab .any (opsOf Try.f27 6) = stx.T6 := by kernel_rfl
theorem stx.bits6 : waitsOk stx.T6.2 stx.B6 = true := by kernel_rfl
def shs.T6 : Bool × List (List Nat × List Nat) := (true, [([], []), ([], []), ([0, 1], [0, 1]), ([2], [2]), ([], []), ([], []), ([4, 5], [4, 5]), ([6], [6]), ([3, 7], [3, 7])])
def shs.B6 : List Nat := [0, 0, 3, 7, 0, 0, 48, 112, 255]
theorem shs.tab6 : rtab .any (opsOf Try.f21 6) = shs.T6 := by kernel_rfl
theorem shs.bits6 : waitsOk shs.T6.2 shs.B6 = true := by kernel_rfl
theorem info9' : (Try.prog.info? 9).map (fun i => (i.zero, i.size, i.bytes)) = some (some (.string ByteArray.empty), 1, 16) := by kernel_rfl
/-- A row of texts of one's own. -/
def SRow (base : Nat) (v : Value) (xs : List ByteArray) (W : World) : Prop := W.ownsRow base 9 1 v xs.length (xs.map Value.string)
theorem srow_nil (base : Nat) (W : World) : SRow base (.slice none 0 0) [] W := World.ownsRow_nil W base 9 1
theorem srow_below {base : Nat} {v : Value} {xs : List ByteArray} {W W' : World} (h : SRow base v xs W) (hb : Below W.heap.size W W') : SRow base v xs W' := by
  obtain ⟨h0, h1⟩ := h
  refine ⟨h0, ?_⟩
  rcases h1 with ⟨h1, h3⟩ | ⟨g, cap, cur, h1, h3, h4, h5⟩
  · exact .inl ⟨h1, h3⟩
  · exact .inr ⟨g, cap, cur, h1, h3, blk_below h4 hb, h5⟩
theorem append_nil_nil (c : Nat) (W : World) : (Builtin.append_ #[22, 22] 22 #[.slice none 0 0, .slice none 0 c]).run Try.prog W = .ok (.slice none 0 0) W := by
  obtain ⟨i0, hi, _⟩ := Option.map_eq_some_iff.1 info9'
  simp [Builtin.append_, run_underlying Try.underlying22, sizeOf, typeInfo, hi, Builtin.lenOf, Builtin.firstCells, loadCells, loadCellsFrom]
theorem strs_at' {W : World} {ad : Addr} {n : Nat} {xs : List ByteArray} (h : Kd.C Kd.string W (some ad) n xs) (j : Nat) (hj : j < n) : W.cell? (ad.add j) = some (.string (xs.getD j ByteArray.empty)) := by
  obtain ⟨ad', e, h1⟩ := strs_at h j hj
  injection e with e
  subst e
  exact h1
/-- append(row, more...) of texts. -/
theorem append_texts (base : Nat) (v : Value) (xs ys : List ByteArray) (w0 W : World) (ad : Addr) (c : Nat) (hr : SRow base v xs W) (hB : Below base w0 W) (hbase : base ≤ W.heap.size) (hm : Kd.C Kd.string W (some ad) ys.length ys) (hl : xs.length + ys.length ≤ 4398046511000) :
    ∃ v' W', (Builtin.append_ #[22, 22] 22 #[v, .slice (some ad) ys.length c]).run Try.prog W = .ok v' W' ∧ SRow base v' (xs ++ ys) W' ∧ Below base w0 W' := by
  obtain ⟨i0, hi, hzz⟩ := Option.map_eq_some_iff.1 info9'
  simp only [Prod.mk.injEq] at hzz
  obtain ⟨hz0, hz1, hz2⟩ := hzz
  obtain ⟨v', W', h1, h2, h3, _⟩ := run_append_own_at (P := Try.prog) W base 22 22 9 i0 (.string ByteArray.empty) 1 16 Try.underlying22 hi hz0 hz1 hz2 rfl (by omega) v xs.length (xs.map Value.string) hr ad ys.length c (ys.map Value.string) (by rw [List.length_map]; omega) (fun j u hj => by
    have hjl := (List.getElem?_eq_some_iff.1 hj).1
    rw [List.length_map] at hjl
    rw [strs_at' hm j hjl, ← hj, List.getElem?_map, List.getElem?_eq_getElem hjl, List.getD_eq_getElem?_getD, List.getElem?_eq_getElem hjl]; rfl) (fun u hu => by
    rw [List.mem_map] at hu
    obtain ⟨x, _, rfl⟩ := hu
    rfl) (by simp only [maxLen]; omega) (by omega) hbase
  have hown : ∀ k, v.ownBlock = some k → base ≤ k := fun k hk => by
    rcases hr.2 with ⟨rfl, _⟩ | ⟨g, cap, cur, rfl, hg, _⟩
    · simp [Value.ownBlock] at hk
    · have : g = k := by simpa [Value.ownBlock] using hk
      omega
  refine ⟨v', W', h1, ?_, hB.grown h3 hbase hown⟩
  unfold SRow
  rw [List.length_append, List.map_append]
  exact h2
theorem exec_append22 {o : Oper} {f : Operand → Value} {W W' : World} {v' : Value} (s x : Operand) (ho : o.op = .call { callee := .builtin .append, args := #[s, x], argTypes := #[22, 22] }) (hty : o.type = 22) (v u : Value) (hs : f s = v) (hx : f x = u)
    (hr : (Builtin.append_ #[22, 22] 22 #[v, u]).run Try.prog W = .ok v' W') : (execOp f o).run Try.prog W = .ok (.value v') W' := by
  unfold execOp
  simp only [ho, hty, resolve, invoke, builtin, Sem.run_bind, Sem.run_pure, Result.andThen_ok, List.map_toArray, List.map_cons, List.map_nil, hs, hx, hr]
/-- Texts are read off a block. -/
theorem texts_block {W : World} {g : Nat} {cs : Array Value} (xs : List ByteArray) (hl : xs.length ≤ 9223372036854775807) (h : W.heap[g]? = some (.cells cs 9 (0, 0))) (hc : ∀ j, j < xs.length → cs[j]? = some (.string (xs.getD j ByteArray.empty))) : Kd.C Kd.string W (some ⟨g, 0, none⟩) xs.length xs := by
  refine ⟨rfl, hl, fun h0 => ⟨_, rfl, fun j x hj => ?_⟩⟩
  have hjl := (List.getElem?_eq_some_iff.1 hj).1
  refine ⟨[.string x], rfl, rfl, fun i u hi => ?_⟩
  cases i with
  | succ i => simp at hi
  | zero =>
    simp only [List.getElem?_cons_zero, Option.some.injEq] at hi
    subst hi
    have ha : (⟨g, 0, none⟩ : Addr).add (j * Kd.string.sz + 0) = ⟨g, j, none⟩ := by
      show (⟨g, 0, none⟩ : Addr).add (j * 1 + 0) = _
      rw [Nat.mul_one]; unfold Addr.add; split <;> simp_all
    rw [ha, blk_cell h, hc j hjl, List.getD_eq_getElem?_getD, hj]; rfl
def MARK : ByteArray := ⟨#[109, 97, 114, 107]⟩
/-- Lent texts: a block of one's own, a mark behind. -/
def LRow (g c : Nat) (xs : List ByteArray) (W : World) : Prop := ∃ cs : Array Value, W.heap[g]? = some (.cells cs 9 (0, 0)) ∧ cs.size = c ∧ xs.length < c ∧ (∀ j, j < xs.length → cs[j]? = some (.string (xs.getD j ByteArray.empty))) ∧ cs[xs.length]? = some (.string MARK)
theorem lrow_below {g c : Nat} {xs : List ByteArray} {W W' : World} (h : LRow g c xs W) (hb : Below W.heap.size W W') : LRow g c xs W' := by
  obtain ⟨cs, h1, h2⟩ := h
  exact ⟨cs, blk_below h1 hb, h2⟩
theorem lrow_read {g c : Nat} {xs : List ByteArray} {W : World} (h : LRow g c xs W) (hl : xs.length ≤ 9223372036854775807) : Kd.C Kd.string W (some ⟨g, 0, none⟩) xs.length xs := by
  obtain ⟨cs, h1, _, _, h4, _⟩ := h
  exact texts_block xs hl h1 h4
theorem lrow_mark {g c : Nat} {xs : List ByteArray} {W : World} (h : LRow g c xs W) : W.cell? ⟨g, xs.length, none⟩ = some (.string ⟨#[109, 97, 114, 107]⟩) := by
  obtain ⟨cs, h1, _, _, _, h5⟩ := h
  rw [blk_cell h1, h5]; rfl
theorem lrow_cap {g c : Nat} {xs : List ByteArray} {W : World} (h : LRow g c xs W) : xs.length ≤ c := by
  obtain ⟨_, _, _, h, _⟩ := h
  omega
theorem lrow_own {base : Nat} {v : Value} {xs : List ByteArray} {W : World} (h : SRow base v (xs ++ [MARK]) W) : ∃ g c, v = .slice (some ⟨g, 0, none⟩) (xs.length + 1) c ∧ base ≤ g ∧ LRow g c xs W ∧ c ≤ maxLen := by
  obtain ⟨h0, ⟨h1, h2⟩ | ⟨g, cap, cur, h1, h2, h3, h4, h5, h6, h7⟩⟩ := h
  · rw [List.length_append] at h2; simp at h2
  · rw [List.length_append, List.length_singleton] at h1 h4 h7
    rw [Nat.mul_one] at h6 h7
    have hat : ∀ j, j < xs.length + 1 → cur[j]? = ((xs ++ [MARK]).map Value.string)[j]? := fun j hj => by
      rw [← h7, List.getElem?_take_of_lt hj, Array.getElem?_toList]
    refine ⟨g, cap, h1, h2, ⟨cur, h3, h6, by omega, fun j hj => ?_, ?_⟩, h5⟩
    · rw [hat j (by omega), List.getElem?_map, List.getElem?_append_left hj, List.getElem?_eq_getElem hj, List.getD_eq_getElem?_getD, List.getElem?_eq_getElem hj]; rfl
    · rw [hat _ (by omega), List.getElem?_map, List.getElem?_append_right (Nat.le_refl _), Nat.sub_self]; rfl
theorem cut22_to (A : Option Addr) (n c j : Nat) (hj : j ≤ c) (W : World) : (Instr.slice 22 (.slice A n c) none (some (.int .i64 (j : Int))) none).run Try.prog W = .ok (.slice A j c) W := by
  obtain ⟨i0, hi, hzz⟩ := Option.map_eq_some_iff.1 info9'
  simp only [Prod.mk.injEq] at hzz
  obtain ⟨hz0, hz1, hz2⟩ := hzz
  have hel : Try.prog.elem 22 = 9 := by simp [Program.elem, Try.underlying22]
  have ha : (A.map fun x => x.add 0) = A := by cases A <;> simp [Addr.add]
  rw [run_slice_h W 22 A n c (by rw [hel]; exact Try.underlying22) .i64 (j : Int) (by omega) (by omega), hel]
  simp [sizeOf, typeInfo, hi, hz1, sliced, Result.andThen, ha]
theorem cut22_from (A : Option Addr) (n c j : Nat) (hj : j ≤ n) (W : World) : (Instr.slice 22 (.slice A n c) (some (.int .i64 (j : Int))) none none).run Try.prog W = .ok (.slice (if c = j then A else A.map fun x => x.add j) (n - j) (c - j)) W := by
  obtain ⟨i0, hi, hzz⟩ := Option.map_eq_some_iff.1 info9'
  simp only [Prod.mk.injEq] at hzz
  obtain ⟨hz0, hz1, hz2⟩ := hzz
  have hel : Try.prog.elem 22 = 9 := by simp [Program.elem, Try.underlying22]
  rw [run_slice_l W 22 A n c (by rw [hel]; exact Try.underlying22) .i64 (j : Int) (by omega) (by omega), hel]
  by_cases e : c = j
  · simp [sizeOf, typeInfo, hi, hz1, sliced, Result.andThen, e]
  · have e2 : ¬ c ≤ j ∨ True := .inr trivial
    simp [sizeOf, typeInfo, hi, hz1, sliced, Result.andThen, e]
/-- lent: texts in memory of their own, a mark behind them. -/
theorem lent_calls (A : Option Addr) (cp : Nat) (xs : List ByteArray) (w : World) (hr : Kd.C Kd.string w A xs.length xs) (hcp : xs.length ≤ cp) (hn : xs.length ≤ 1099511627776) :
    Calls Try.prog 8 #[.slice A xs.length cp] w fun e w' => ∃ g c, e = .returned (.slice (some ⟨g, 0, none⟩) xs.length c) ∧ w.heap.size ≤ g ∧ LRow g c xs w' ∧ c ≤ maxLen ∧ Below w.heap.size w w' := by
  have HR := Aside0.mk hr
  have HAP : Aside0 (∃ v' W', (Builtin.append_ #[22, 22] 22 #[.slice none 0 0, .slice A xs.length cp]).run Try.prog w = .ok v' W' ∧ SRow w.heap.size v' xs W' ∧ Below w.heap.size w W') := by
    refine ⟨?_⟩
    cases A with
    | none =>
      have h0 : xs.length = 0 := by
        by_cases h : 0 < xs.length
        · obtain ⟨_, _, h1⟩ := hr
          obtain ⟨_, e, _⟩ := h1 h
          cases e
        · omega
      rw [h0]
      refine ⟨_, _, append_nil_nil cp w, ?_, Below.refl _ _⟩
      rw [List.eq_nil_of_length_eq_zero h0]; exact srow_nil _ _
    | some ad =>
      obtain ⟨v', W', h1, h2, h3⟩ := append_texts w.heap.size (.slice none 0 0) [] xs w w ad cp (srow_nil _ _) (Below.refl _ _) (Nat.le_refl _) hr (by simp; omega)
      exact ⟨v', W', h1, h2, h3⟩
  obtain ⟨v1, w1, hap, hs1, hb1⟩ := HAP.out
  have HS1 := Aside0.mk hs1
  have D1 := Aside0.mk hb1
  have AP1 := Aside0.mk hap
  clear HAP hap hs1 hb1 hr
  go_enter Try.func8, Try.ntmps8
  go_wp2_with (first
    | ((with_reducible refine gate_dst (N := 6) rfl ?_); go_loud (refine Kd.event_run rfl (exec_append22 (.tmp 4) (.tmp 5) rfl rfl _ _ rfl rfl AP1.out) ?_))
    | ((with_reducible refine gate_dst (N := 9) rfl ?_); go_loud (obtain ⟨v2, w3, hr1, hr2, hr3⟩ := append_texts w.heap.size v1 xs [MARK] w (w1.alloc (.cells #[.string MARK] 9)) ⟨w1.heap.size, 0, none⟩ 1 (srow_below HS1.out (below_alloc (Below.refl _ _) _)) (below_alloc D1.out _) (below_alloc D1.out _).size (texts_block [MARK] (by decide) (blk_new _ _) (fun j hj => (by match j, hj with | 0, _ => rfl))) (by show _ + 1 ≤ _; omega); obtain ⟨g, c, rfl, hg, hl, hcm⟩ := lrow_own hr2; have hlc : (xs.length ≤ c) = True := eq_true (by obtain ⟨_, _, _, h, _⟩ := hl; omega); have HLR := Aside0.mk hl; have HCM := Aside0.mk hcm; have HGG := Aside0.mk hg; have D2 := Aside0.mk hr3; clear hl hcm hg hr3 hr2; refine Kd.event_run rfl (exec_append22 (.tmp 7) (.tmp 8) rfl rfl _ _ rfl rfl hr1) ?_; clear hr1)))
  go_ret
  exact ⟨g, c, rfl, HGG.out, HLR.out, HCM.out, D2.out⟩
/-- sameTexts of equal rows. -/
theorem sameTexts_calls (A B : Option Addr) (c d : Nat) (xs : List ByteArray) (w : World) (ha : Kd.C Kd.string w A xs.length xs) (hb : Kd.C Kd.string w B xs.length xs) (hl : xs.length ≤ 1099511627776) :
    Calls Try.prog 27 #[.slice A xs.length c, .slice B xs.length d] w fun e w' => e = .returned (.bool true) ∧ Below w.heap.size w w' := by
  have HA := Aside0.mk ha
  have HB := Aside0.mk hb
  clear ha hb
  go_enter Try.func27, Try.ntmps27
  go_wp2
  go_loopw [5] (fun v5 W => ∃ i : Nat, i ≤ xs.length ∧ v5 = .int .i64 i ∧ Aside0 (Below w.heap.size w W)) (fun v5 _ => xs.length - (intOf v5).toNat)
  case atStart => exact ⟨0, Nat.zero_le _, rfl, ⟨Below.refl _ _⟩⟩
  case round =>
    obtain ⟨i, hi, rfl, D0⟩ := hrel
    by_cases hlt : i < xs.length
    · have q1 : ((i : Int) < (xs.length : Int)) = True := eq_true (by omega)
      have q2 : (i < xs.length) = True := eq_true hlt
      have q3 : (xs.length ≤ i) = False := eq_false (by omega)
      obtain ⟨ad, rfl, _⟩ := strs_at HA.out i hlt
      obtain ⟨bd, rfl, _⟩ := strs_at HB.out i hlt
      have HXE := Aside0.mk (strs_at' HA.out i hlt)
      have HYE := Aside0.mk (strs_at' HB.out i hlt)
      generalize xs.getD i ByteArray.empty = s at HXE HYE
      have XA := Aside0.mk (below_cell' D0.out HXE.out)
      have XB := Aside0.mk (below_cell' D0.out HYE.out)
      go_upto_region 6 with (fail)
      refine start_ (n := 9) (S := fun W => W.cell? (ad.add i) = some (.string s) ∧ W.cell? (bd.add i) = some (.string s)) (ds := []) #[false, false, false, false, false, false, false, false, false] (by kernel_rfl) rfl rfl ⟨below_cell' (below_drew1 (Below.refl _ _)) XA.out, below_cell' (below_drew1 (Below.refl _ _)) XB.out⟩ (fun hHeld => ?_); refine with_tabW stx.tab6 stx.bits6 (fun HT_ HW_ => ?_)
      have n_D0 := Aside0.mk (below_drew1 D0.out)
      clear D0
      have D0 := n_D0
      clear n_D0
      generalize World.drew _ = wR at D0 hHeld ⊢
      refine pure_ (i := 0) (N := some 17) (v := ?_) (a' := ?_) #[true, false, false, false, false, false, false, false, false] rfl rfl (any_of HT_.out (by kernel_rfl)) (fun _ _ _ h => h) (Or.inl ⟨by rfl, ?_⟩) ?_ ?_
      rotate_left
      · intro w'
        go_simp
        with_reducible rfl
      rotate_left
      · simp only [Act.put, List.setIfInBounds_toArray, List.set_cons_zero, List.set_cons_succ, i64_w, i32_w]
        rfl
      refine pure_ (i := 1) (N := some 18) (v := ?_) (a' := ?_) #[true, true, false, false, false, false, false, false, false] rfl rfl (any_of HT_.out (by kernel_rfl)) (fun _ _ _ h => h) (Or.inl ⟨by rfl, ?_⟩) ?_ ?_
      rotate_left
      · intro w'
        go_simp
        with_reducible rfl
      rotate_left
      · simp only [Act.put, List.setIfInBounds_toArray, List.set_cons_zero, List.set_cons_succ, i64_w, i32_w]
        rfl
      refine pure_ (i := 2) (N := some 19) (v := ?_) (a' := ?_) #[true, true, true, false, false, false, false, false, false] rfl rfl (any_of HT_.out (by kernel_rfl)) (fun _ _ _ h => h) (Or.inl ⟨by rfl, ?_⟩) ?_ ?_
      rotate_left
      · intro w'
        go_simp
        with_reducible rfl
      rotate_left
      · simp only [Act.put, List.setIfInBounds_toArray, List.set_cons_zero, List.set_cons_succ, i64_w, i32_w]
        rfl
      refine take_ (i := 3) (N := some 20) (v := ?_) (a' := ?_) #[true, true, true, true, false, false, false, false, false] rfl rfl (take_ofW HT_.out HW_.out (by kernel_rfl)) (fun _ _ _ h => h) (Or.inl ⟨by rfl, ?_⟩) hHeld ?_ ?_
      rotate_left
      · rintro w' ⟨s0, s1⟩
        go_simp
        with_reducible rfl
      rotate_left
      · simp only [Act.put, List.setIfInBounds_toArray, List.set_cons_zero, List.set_cons_succ, i64_w, i32_w]
        rfl
      refine pure_ (i := 4) (N := some 21) (v := ?_) (a' := ?_) #[true, true, true, true, true, false, false, false, false] rfl rfl (any_of HT_.out (by kernel_rfl)) (fun _ _ _ h => h) (Or.inl ⟨by rfl, ?_⟩) ?_ ?_
      rotate_left
      · intro w'
        go_simp
        with_reducible rfl
      rotate_left
      · simp only [Act.put, List.setIfInBounds_toArray, List.set_cons_zero, List.set_cons_succ, i64_w, i32_w]
        rfl
      refine pure_ (i := 5) (N := some 22) (v := ?_) (a' := ?_) #[true, true, true, true, true, true, false, false, false] rfl rfl (any_of HT_.out (by kernel_rfl)) (fun _ _ _ h => h) (Or.inl ⟨by rfl, ?_⟩) ?_ ?_
      rotate_left
      · intro w'
        go_simp
        with_reducible rfl
      rotate_left
      · simp only [Act.put, List.setIfInBounds_toArray, List.set_cons_zero, List.set_cons_succ, i64_w, i32_w]
        rfl
      refine pure_ (i := 6) (N := some 23) (v := ?_) (a' := ?_) #[true, true, true, true, true, true, true, false, false] rfl rfl (any_of HT_.out (by kernel_rfl)) (fun _ _ _ h => h) (Or.inl ⟨by rfl, ?_⟩) ?_ ?_
      rotate_left
      · intro w'
        go_simp
        with_reducible rfl
      rotate_left
      · simp only [Act.put, List.setIfInBounds_toArray, List.set_cons_zero, List.set_cons_succ, i64_w, i32_w]
        rfl
      refine take_ (i := 7) (N := some 24) (v := ?_) (a' := ?_) #[true, true, true, true, true, true, true, true, false] rfl rfl (take_ofW HT_.out HW_.out (by kernel_rfl)) (fun _ _ _ h => h) (Or.inl ⟨by rfl, ?_⟩) hHeld ?_ ?_
      rotate_left
      · rintro w' ⟨s0, s1⟩
        go_simp
        with_reducible rfl
      rotate_left
      · simp only [Act.put, List.setIfInBounds_toArray, List.set_cons_zero, List.set_cons_succ, i64_w, i32_w]
        rfl
      refine pure_ (i := 8) (N := some 25) (v := ?_) (a' := ?_) #[true, true, true, true, true, true, true, true, true] rfl rfl (any_of HT_.out (by kernel_rfl)) (fun _ _ _ h => h) (Or.inl ⟨by rfl, ?_⟩) ?_ ?_
      rotate_left
      · intro w'
        go_simp
        with_reducible rfl
      rotate_left
      · simp only [Act.put, List.setIfInBounds_toArray, List.set_cons_zero, List.set_cons_succ, i64_w, i32_w]
        rfl
      refine done_ (done_of HT_.out (by kernel_rfl)) ?_
      go_wp2
      go_roundw
      case rel => exact ⟨i + 1, by omega, by go_num, D0⟩
      case measure => simp [intOf]; omega
    · have q1 : ((i : Int) < (xs.length : Int)) = False := eq_false (by omega)
      go_wp2
      go_ret
      exact ⟨rfl, D0.out⟩
/-- kept of lent texts that are as they were. -/
theorem kept_calls (g c : Nat) (A : Option Addr) (cp : Nat) (xs : List ByteArray) (w : World) (hg : LRow g c xs w) (hcm : c ≤ maxLen) (hr : Kd.C Kd.string w A xs.length xs) (hn : xs.length ≤ 1099511627776) :
    Calls Try.prog 11 #[.slice (some ⟨g, 0, none⟩) xs.length c, .slice A xs.length cp] w fun e w' => e = .returned (.bool true) ∧ Below w.heap.size w w' := by
  have HG := Aside0.mk hg
  have HR := Aside0.mk hr
  have hc1 : xs.length + 1 ≤ c := by obtain ⟨cs, _, _, h, _⟩ := hg; omega
  clear hg hr
  go_enter Try.func11, Try.ntmps11
  have hm := lrow_mark HG.out
  have hcm2 : c ≤ 9223372036854775807 := by simp only [maxLen] at hcm; omega
  have q1 : (xs.length + 1 ≤ c) = True := eq_true hc1
  have q2 : (xs.length < xs.length + 1) = True := eq_true (by omega)
  go_wp2_with (first
    | (go_at_call 27; (with_reducible refine (sameTexts_calls _ _ _ _ xs _ (lrow_read HG.out (by omega)) HR.out hn).mono ?_); rintro e w2 ⟨rfl, hb⟩; have D0 := Aside0.mk hb; have hm2 := below_cell' hb hm; clear hb))
  go_ret
  exact ⟨rfl, D0.out⟩
/-- same of equal rows of hashes. -/
theorem same_calls (A B : Option Addr) (c d : Nat) (rows : List (List UInt8)) (w : World) (ha : HRead A rows w) (hb : HRead B rows w) (hl : rows.length ≤ 1099511627776) :
    Calls Try.prog 21 #[.slice A rows.length c, .slice B rows.length d] w fun e w' => e = .returned (.bool true) ∧ Below w.heap.size w w' := by
  have HA0 := Aside0.mk ha
  have HB0 := Aside0.mk hb
  clear ha hb
  go_enter Try.func21, Try.ntmps21
  go_wp2
  go_loopw [5] (fun v5 W => ∃ i : Nat, i ≤ rows.length ∧ v5 = .int .i64 i ∧ Aside0 (Below w.heap.size w W)) (fun v5 _ => rows.length - (intOf v5).toNat)
  case atStart => exact ⟨0, Nat.zero_le _, rfl, ⟨Below.refl _ _⟩⟩
  case round =>
    obtain ⟨i, hi, rfl, D0⟩ := hrel
    by_cases hlt : i < rows.length
    · have q1 : ((i : Int) < (rows.length : Int)) = True := eq_true (by omega)
      have q2 : (i < rows.length) = True := eq_true hlt
      have q3 : (rows.length ≤ i) = False := eq_false (by omega)
      obtain ⟨ad, rfl, _⟩ := HA0.out.2 (by omega)
      obtain ⟨bd, rfl, _⟩ := HB0.out.2 (by omega)
      have HA := Aside0.mk (hread_below HA0.out D0.out)
      have HB := Aside0.mk (hread_below HB0.out D0.out)
      obtain ⟨x, hxe⟩ : ∃ x, x = rows.getD i [] := ⟨_, rfl⟩
      have hx : x.length = 32 := by rw [hxe]; exact hread_len HA0.out i hlt
      have HXE := Aside0.mk hxe
      clear hxe
      have heq := eq32 x x hx hx
      rw [decide_eq_true rfl, B32_brw x hx] at heq
      go_upto_region 6 with (fail)
      refine start_ (n := 9) (S := fun W => HRead (some ad) rows W ∧ HRead (some bd) rows W) (ds := []) #[false, false, false, false, false, false, false, false, false] (by kernel_rfl) rfl rfl ⟨hread_below HA.out (below_drew1 (Below.refl _ _)), hread_below HB.out (below_drew1 (Below.refl _ _))⟩ (fun hHeld => ?_); refine with_tabW shs.tab6 shs.bits6 (fun HT_ HW_ => ?_)
      have n_D0 := Aside0.mk (below_drew1 D0.out)
      clear D0
      have D0 := n_D0
      clear n_D0
      generalize World.drew _ = wR at D0 hHeld ⊢
      refine pure_ (i := 0) (N := some 17) (v := ?_) (a' := ?_) #[true, false, false, false, false, false, false, false, false] rfl rfl (any_of HT_.out (by kernel_rfl)) (fun _ _ _ h => h) (Or.inl ⟨by rfl, ?_⟩) ?_ ?_
      rotate_left
      · intro w'
        go_simp
        with_reducible rfl
      rotate_left
      · simp only [Act.put, List.setIfInBounds_toArray, List.set_cons_zero, List.set_cons_succ, i64_w, i32_w]
        rfl
      refine pure_ (i := 1) (N := some 18) (v := ?_) (a' := ?_) #[true, true, false, false, false, false, false, false, false] rfl rfl (any_of HT_.out (by kernel_rfl)) (fun _ _ _ h => h) (Or.inl ⟨by rfl, ?_⟩) ?_ ?_
      rotate_left
      · intro w'
        go_simp
        with_reducible rfl
      rotate_left
      · simp only [Act.put, List.setIfInBounds_toArray, List.set_cons_zero, List.set_cons_succ, i64_w, i32_w]
        rfl
      refine pure_ (i := 2) (N := some 19) (v := ?_) (a' := ?_) #[true, true, true, false, false, false, false, false, false] rfl rfl (any_of HT_.out (by kernel_rfl)) (fun _ _ _ h => h) (Or.inl ⟨by rfl, ?_⟩) ?_ ?_
      rotate_left
      · intro w'
        go_simp
        with_reducible rfl
      rotate_left
      · simp only [Act.put, List.setIfInBounds_toArray, List.set_cons_zero, List.set_cons_succ, i64_w, i32_w]
        rfl
      refine take_ (i := 3) (N := some 20) (v := ?_) (a' := ?_) #[true, true, true, true, false, false, false, false, false] rfl rfl (take_ofW HT_.out HW_.out (by kernel_rfl)) (fun _ _ _ h => h) (Or.inl ⟨by rfl, ?_⟩) hHeld ?_ ?_
      rotate_left
      · rintro w' ⟨s0, s1⟩
        refine exec_load_hash (.tmp 19) ?_ (ad.add (i * 32)) ?_ x hx (by rw [HXE.out]; exact hread_at s0 i hlt) <;> rfl
      rotate_left
      · simp only [Act.put, List.setIfInBounds_toArray, List.set_cons_zero, List.set_cons_succ, i64_w, i32_w]
        rfl
      refine pure_ (i := 4) (N := some 21) (v := ?_) (a' := ?_) #[true, true, true, true, true, false, false, false, false] rfl rfl (any_of HT_.out (by kernel_rfl)) (fun _ _ _ h => h) (Or.inl ⟨by rfl, ?_⟩) ?_ ?_
      rotate_left
      · intro w'
        go_simp
        with_reducible rfl
      rotate_left
      · simp only [Act.put, List.setIfInBounds_toArray, List.set_cons_zero, List.set_cons_succ, i64_w, i32_w]
        rfl
      refine pure_ (i := 5) (N := some 22) (v := ?_) (a' := ?_) #[true, true, true, true, true, true, false, false, false] rfl rfl (any_of HT_.out (by kernel_rfl)) (fun _ _ _ h => h) (Or.inl ⟨by rfl, ?_⟩) ?_ ?_
      rotate_left
      · intro w'
        go_simp
        with_reducible rfl
      rotate_left
      · simp only [Act.put, List.setIfInBounds_toArray, List.set_cons_zero, List.set_cons_succ, i64_w, i32_w]
        rfl
      refine pure_ (i := 6) (N := some 23) (v := ?_) (a' := ?_) #[true, true, true, true, true, true, true, false, false] rfl rfl (any_of HT_.out (by kernel_rfl)) (fun _ _ _ h => h) (Or.inl ⟨by rfl, ?_⟩) ?_ ?_
      rotate_left
      · intro w'
        go_simp
        with_reducible rfl
      rotate_left
      · simp only [Act.put, List.setIfInBounds_toArray, List.set_cons_zero, List.set_cons_succ, i64_w, i32_w]
        rfl
      refine take_ (i := 7) (N := some 24) (v := ?_) (a' := ?_) #[true, true, true, true, true, true, true, true, false] rfl rfl (take_ofW HT_.out HW_.out (by kernel_rfl)) (fun _ _ _ h => h) (Or.inl ⟨by rfl, ?_⟩) hHeld ?_ ?_
      rotate_left
      · rintro w' ⟨s0, s1⟩
        refine exec_load_hash (.tmp 23) ?_ (bd.add (i * 32)) ?_ x hx (by rw [HXE.out]; exact hread_at s1 i hlt) <;> rfl
      rotate_left
      · simp only [Act.put, List.setIfInBounds_toArray, List.set_cons_zero, List.set_cons_succ, i64_w, i32_w]
        rfl
      refine pure_ (i := 8) (N := some 25) (v := ?_) (a' := ?_) #[true, true, true, true, true, true, true, true, true] rfl rfl (any_of HT_.out (by kernel_rfl)) (fun _ _ _ h => h) (Or.inl ⟨by rfl, ?_⟩) ?_ ?_
      rotate_left
      · intro w'
        go_simp
        with_reducible rfl
      rotate_left
      · simp only [Act.put, List.setIfInBounds_toArray, List.set_cons_zero, List.set_cons_succ, i64_w, i32_w]
        rfl
      refine done_ (done_of HT_.out (by kernel_rfl)) ?_
      go_wp2
      go_roundw
      case rel => exact ⟨i + 1, by omega, by go_num, D0⟩
      case measure => simp [intOf]; omega
    · have q1 : ((i : Int) < (rows.length : Int)) = False := eq_false (by omega)
      go_wp2
      go_ret
      exact ⟨rfl, D0.out⟩
end Go.Proofs.Ythpnppfpmhlkaaa.Sha
