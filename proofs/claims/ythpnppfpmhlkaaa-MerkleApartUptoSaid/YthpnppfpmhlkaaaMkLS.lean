/- Chapter 3: the law's helpers. -/
import Derived.Test.YthpnppfpmhlkaaaMkK
import Derived.Test.YthpnppfpmhlkaaaMkPQR
/- Chapter 3: what the document gives: the law's first. -/
namespace Go.Proofs.Ythpnppfpmhlkaaa.Sha
open Go.RowKit Go.Proofs.Ythpnppfpmhlkaaa.X Go.Proofs.YthpnppfpmhlkaaaW.PrintWords Go.Proofs.YthpnppfpmhlkaaaW.PrintLast Go.Proofs.YthpnppfpmhlkaaaW.PrintMore
set_option linter.unusedVariables false
set_option linter.unusedSimpArgs false

def stx.T6 : Bool × List (List Nat × List Nat) := (true, [([], []), ([], []), ([0, 1], [0, 1]), ([2], [2]), ([], []), ([], []), ([4, 5], [4, 5]), ([6], [6]), ([3, 7], [3, 7])])
def stx.B6 : List Nat := [0, 0, 3, 7, 0, 0, 48, 112, 255]
theorem stx.tab6 : rtab .any (opsOf Try.f27 6) = stx.T6 := by kernel_rfl
theorem stx.bits6 : waitsOk stx.T6.2 stx.B6 = true := by kernel_rfl
def shs.T6 : Bool × List (List Nat × List Nat) := (true, [([], []), ([], []), ([0, 1], [0, 1]), ([2], [2]), ([], []), ([], []), ([4, 5], [4, 5]), ([6], [6]), ([3, 7], [3, 7])])
def shs.B6 : List Nat := [0, 0, 3, 7, 0, 0, 48, 112, 255]
theorem shs.tab6 : rtab .any (opsOf Try.f21 6) = shs.T6 := by kernel_rfl
theorem shs.bits6 : waitsOk shs.T6.2 shs.B6 = true := by kernel_rfl
theorem info9' : (Try.prog.info? 9).map (fun i => (i.zero, i.size, i.bytes)) = some (some (.string ByteArray.empty), 1, 16) := by kernel_rfl
/-- A row of texts of one's own. -/
def SRow (base : Nat) (v : Value) (xs : List ByteArray) (W : World) : Prop := W.ownsRow base 9 1 v xs.length (xs.map Value.string)
theorem srow_nil (base : Nat) (W : World) : SRow base (.slice none 0 0) [] W := World.ownsRow_nil W base 9 1
theorem srow_below {base : Nat} {v : Value} {xs : List ByteArray} {W W' : World} (h : SRow base v xs W) (hb : Below W.heap.size W W') : SRow base v xs W' := by
  obtain ⟨h0, h1⟩ := h
  refine ⟨h0, ?_⟩
  rcases h1 with ⟨h1, h3⟩ | ⟨g, cap, cur, h1, h3, h4, h5⟩
  · exact .inl ⟨h1, h3⟩
  · exact .inr ⟨g, cap, cur, h1, h3, blk_below h4 hb, h5⟩
theorem append_nil_nil (c : Nat) (W : World) : (Builtin.append_ #[22, 22] 22 #[.slice none 0 0, .slice none 0 c]).run Try.prog W = .ok (.slice none 0 0) W := by
  obtain ⟨i0, hi, _⟩ := Option.map_eq_some_iff.1 info9'
  simp [Builtin.append_, run_underlying Try.underlying22, sizeOf, typeInfo, hi, Builtin.lenOf, Builtin.firstCells, loadCells, loadCellsFrom]
theorem strs_at' {W : World} {ad : Addr} {n : Nat} {xs : List ByteArray} (h : Kd.C Kd.string W (some ad) n xs) (j : Nat) (hj : j < n) : W.cell? (ad.add j) = some (.string (xs.getD j ByteArray.empty)) := by
  obtain ⟨ad', e, h1⟩ := strs_at h j hj
  injection e with e
  subst e
  exact h1
/-- append(row, more...) of texts. -/
theorem append_texts (base : Nat) (v : Value) (xs ys : List ByteArray) (w0 W : World) (ad : Addr) (c : Nat) (hr : SRow base v xs W) (hB : Below base w0 W) (hbase : base ≤ W.heap.size) (hm : Kd.C Kd.string W (some ad) ys.length ys) (hl : xs.length + ys.length ≤ 4398046511000) :
    ∃ v' W', (Builtin.append_ #[22, 22] 22 #[v, .slice (some ad) ys.length c]).run Try.prog W = .ok v' W' ∧ SRow base v' (xs ++ ys) W' ∧ Below base w0 W' := by
  obtain ⟨i0, hi, hzz⟩ := Option.map_eq_some_iff.1 info9'
  simp only [Prod.mk.injEq] at hzz
  obtain ⟨hz0, hz1, hz2⟩ := hzz
  obtain ⟨v', W', h1, h2, h3, _⟩ := run_append_own_at (P := Try.prog) W base 22 22 9 i0 (.string ByteArray.empty) 1 16 Try.underlying22 hi hz0 hz1 hz2 rfl (by omega) v xs.length (xs.map Value.string) hr ad ys.length c (ys.map Value.string) (by rw [List.length_map]; omega) (fun j u hj => by
    have hjl := (List.getElem?_eq_some_iff.1 hj).1
    rw [List.length_map] at hjl
    rw [strs_at' hm j hjl, ← hj, List.getElem?_map, List.getElem?_eq_getElem hjl, List.getD_eq_getElem?_getD, List.getElem?_eq_getElem hjl]; rfl) (fun u hu => by
    rw [List.mem_map] at hu
    obtain ⟨x, _, rfl⟩ := hu
    rfl) (by simp only [maxLen]; omega) (by omega) hbase
  have hown : ∀ k, v.ownBlock = some k → base ≤ k := fun k hk => by
    rcases hr.2 with ⟨rfl, _⟩ | ⟨g, cap, cur, rfl, hg, _⟩
    · simp [Value.ownBlock] at hk
    · have : g = k := by simpa [Value.ownBlock] using hk
      omega
  refine ⟨v', W', h1, ?_, hB.grown h3 hbase hown⟩
  unfold SRow
  rw [List.length_append, List.map_append]
  exact h2
theorem exec_append22 {o : Oper} {f : Operand → Value} {W W' : World} {v' : Value} (s x : Operand) (ho : o.op = .call { callee := .builtin .append, args := #[s, x], argTypes := #[22, 22] }) (hty : o.type = 22) (v u : Value) (hs : f s = v) (hx : f x = u)
    (hr : (Builtin.append_ #[22, 22] 22 #[v, u]).run Try.prog W = .ok v' W') : (execOp f o).run Try.prog W = .ok (.value v') W' := by
  unfold execOp
  simp only [ho, hty, resolve, invoke, builtin, Sem.run_bind, Sem.run_pure, Result.andThen_ok, List.map_toArray, List.map_cons, List.map_nil, hs, hx, hr]
/-- Texts are read off a block. -/
theorem texts_block {W : World} {g : Nat} {cs : Array Value} (xs : List ByteArray) (hl : xs.length ≤ 9223372036854775807) (h : W.heap[g]? = some (.cells cs 9 (0, 0))) (hc : ∀ j, j < xs.length → cs[j]? = some (.string (xs.getD j ByteArray.empty))) : Kd.C Kd.string W (some ⟨g, 0, none⟩) xs.length xs := by
  refine ⟨rfl, hl, fun h0 => ⟨_, rfl, fun j x hj => ?_⟩⟩
  have hjl := (List.getElem?_eq_some_iff.1 hj).1
  refine ⟨[.string x], rfl, rfl, fun i u hi => ?_⟩
  cases i with
  | succ i => simp at hi
  | zero =>
    simp only [List.getElem?_cons_zero, Option.some.injEq] at hi
    subst hi
    have ha : (⟨g, 0, none⟩ : Addr).add (j * Kd.string.sz + 0) = ⟨g, j, none⟩ := by
      show (⟨g, 0, none⟩ : Addr).add (j * 1 + 0) = _
      rw [Nat.mul_one]; unfold Addr.add; split <;> simp_all
    rw [ha, blk_cell h, hc j hjl, List.getD_eq_getElem?_getD, hj]; rfl
def MARK : ByteArray := ⟨#[109, 97, 114, 107]⟩
/-- Lent texts: a block of one's own, a mark behind. -/
def LRow (g c : Nat) (xs : List ByteArray) (W : World) : Prop := ∃ cs : Array Value, W.heap[g]? = some (.cells cs 9 (0, 0)) ∧ cs.size = c ∧ xs.length < c ∧ (∀ j, j < xs.length → cs[j]? = some (.string (xs.getD j ByteArray.empty))) ∧ cs[xs.length]? = some (.string MARK)
theorem lrow_below {g c : Nat} {xs : List ByteArray} {W W' : World} (h : LRow g c xs W) (hb : Below W.heap.size W W') : LRow g c xs W' := by
  obtain ⟨cs, h1, h2⟩ := h
  exact ⟨cs, blk_below h1 hb, h2⟩
theorem lrow_read {g c : Nat} {xs : List ByteArray} {W : World} (h : LRow g c xs W) (hl : xs.length ≤ 9223372036854775807) : Kd.C Kd.string W (some ⟨g, 0, none⟩) xs.length xs := by
  obtain ⟨cs, h1, _, _, h4, _⟩ := h
  exact texts_block xs hl h1 h4
theorem lrow_mark {g c : Nat} {xs : List ByteArray} {W : World} (h : LRow g c xs W) : W.cell? ⟨g, xs.length, none⟩ = some (.string ⟨#[109, 97, 114, 107]⟩) := by
  obtain ⟨cs, h1, _, _, _, h5⟩ := h
  rw [blk_cell h1, h5]; rfl
theorem lrow_cap {g c : Nat} {xs : List ByteArray} {W : World} (h : LRow g c xs W) : xs.length ≤ c := by
  obtain ⟨_, _, _, h, _⟩ := h
  omega
theorem lrow_own {base : Nat} {v : Value} {xs : List ByteArray} {W : World} (h : SRow base v (xs ++ [MARK]) W) : ∃ g c, v = .slice (some ⟨g, 0, none⟩) (xs.length + 1) c ∧ base ≤ g ∧ LRow g c xs W ∧ c ≤ maxLen := by
  obtain ⟨h0, ⟨h1, h2⟩ | ⟨g, cap, cur, h1, h2, h3, h4, h5, h6, h7⟩⟩ := h
  · rw [List.length_append] at h2; simp at h2
  · rw [List.length_append, List.length_singleton] at h1 h4 h7
    rw [Nat.mul_one] at h6 h7
    have hat : ∀ j, j < xs.length + 1 → cur[j]? = ((xs ++ [MARK]).map Value.string)[j]? := fun j hj => by
      rw [← h7, List.getElem?_take_of_lt hj, Array.getElem?_toList]
    refine ⟨g, cap, h1, h2, ⟨cur, h3, h6, by omega, fun j hj => ?_, ?_⟩, h5⟩
    · rw [hat j (by omega), List.getElem?_map, List.getElem?_append_left hj, List.getElem?_eq_getElem hj, List.getD_eq_getElem?_getD, List.getElem?_eq_getElem hj]; rfl
    · rw [hat _ (by omega), List.getElem?_map, List.getElem?_append_right (Nat.le_refl _), Nat.sub_self]; rfl
theorem cut22_to (A : Option Addr) (n c j : Nat) (hj : j ≤ c) (W : World) : (Instr.slice 22 (.slice A n c) none (some (.int .i64 (j : Int))) none).run Try.prog W = .ok (.slice A j c) W := by
  obtain ⟨i0, hi, hzz⟩ := Option.map_eq_some_iff.1 info9'
  simp only [Prod.mk.injEq] at hzz
  obtain ⟨hz0, hz1, hz2⟩ := hzz
  have hel : Try.prog.elem 22 = 9 := by simp [Program.elem, Try.underlying22]
  have ha : (A.map fun x => x.add 0) = A := by cases A <;> simp [Addr.add]
  rw [run_slice_h W 22 A n c (by rw [hel]; exact Try.underlying22) .i64 (j : Int) (by omega) (by omega), hel]
  simp [sizeOf, typeInfo, hi, hz1, sliced, Result.andThen, ha]
theorem cut22_from (A : Option Addr) (n c j : Nat) (hj : j ≤ n) (W : World) : (Instr.slice 22 (.slice A n c) (some (.int .i64 (j : Int))) none none).run Try.prog W = .ok (.slice (if c = j then A else A.map fun x => x.add j) (n - j) (c - j)) W := by
  obtain ⟨i0, hi, hzz⟩ := Option.map_eq_some_iff.1 info9'
  simp only [Prod.mk.injEq] at hzz
  obtain ⟨hz0, hz1, hz2⟩ := hzz
  have hel : Try.prog.elem 22 = 9 := by simp [Program.elem, Try.underlying22]
  rw [run_slice_l W 22 A n c (by rw [hel]; exact Try.underlying22) .i64 (j : Int) (by omega) (by omega), hel]
  by_cases e : c = j
  · simp [sizeOf, typeInfo, hi, hz1, sliced, Result.andThen, e]
  · have e2 : ¬ c ≤ j ∨ True := .inr trivial
    simp [sizeOf, typeInfo, hi, hz1, sliced, Result.andThen, e]
/-- lent: texts in memory of their own, a mark behind them. -/
theorem lent_calls (A : Option Addr) (cp : Nat) (xs : List ByteArray) (w : World) (hr : Kd.C Kd.string w A xs.length xs) (hcp : xs.length ≤ cp) (hn : xs.length ≤ 1099511627776) :
    Calls Try.prog 8 #[.slice A xs.length cp] w fun e w' => ∃ g c, e = .returned (.slice (some ⟨g, 0, none⟩) xs.length c) ∧ w.heap.size ≤ g ∧ LRow g c xs w' ∧ c ≤ maxLen ∧ Below w.heap.size w w' := by
  have HR := Aside0.mk hr
  have HAP : Aside0 (∃ v' W', (Builtin.append_ #[22, 22] 22 #[.slice none 0 0, .slice A xs.length cp]).run Try.prog w = .ok v' W' ∧ SRow w.heap.size v' xs W' ∧ Below w.heap.size w W') := by
    refine ⟨?_⟩
    cases A with
    | none =>
      have h0 : xs.length = 0 := by
        by_cases h : 0 < xs.length
        · obtain ⟨_, _, h1⟩ := hr
          obtain ⟨_, e, _⟩ := h1 h
          cases e
        · omega
      rw [h0]
      refine ⟨_, _, append_nil_nil cp w, ?_, Below.refl _ _⟩
      rw [List.eq_nil_of_length_eq_zero h0]; exact srow_nil _ _
    | some ad =>
      obtain ⟨v', W', h1, h2, h3⟩ := append_texts w.heap.size (.slice none 0 0) [] xs w w ad cp (srow_nil _ _) (Below.refl _ _) (Nat.le_refl _) hr (by simp; omega)
      exact ⟨v', W', h1, h2, h3⟩
  obtain ⟨v1, w1, hap, hs1, hb1⟩ := HAP.out
  have HS1 := Aside0.mk hs1
  have D1 := Aside0.mk hb1
  have AP1 := Aside0.mk hap
  clear HAP hap hs1 hb1 hr
  go_enter Try.func8, Try.ntmps8
  go_wp2_with (first
    | ((with_reducible refine gate_dst (N := 6) rfl ?_); go_loud (refine Kd.event_run rfl (exec_append22 (.tmp 4) (.tmp 5) rfl rfl _ _ rfl rfl AP1.out) ?_))
    | ((with_reducible refine gate_dst (N := 9) rfl ?_); go_loud (obtain ⟨v2, w3, hr1, hr2, hr3⟩ := append_texts w.heap.size v1 xs [MARK] w (w1.alloc (.cells #[.string MARK] 9)) ⟨w1.heap.size, 0, none⟩ 1 (srow_below HS1.out (below_alloc (Below.refl _ _) _)) (below_alloc D1.out _) (below_alloc D1.out _).size (texts_block [MARK] (by decide) (blk_new _ _) (fun j hj => (by match j, hj with | 0, _ => rfl))) (by show _ + 1 ≤ _; omega); obtain ⟨g, c, rfl, hg, hl, hcm⟩ := lrow_own hr2; have hlc : (xs.length ≤ c) = True := eq_true (by obtain ⟨_, _, _, h, _⟩ := hl; omega); have HLR := Aside0.mk hl; have HCM := Aside0.mk hcm; have HGG := Aside0.mk hg; have D2 := Aside0.mk hr3; clear hl hcm hg hr3 hr2; refine Kd.event_run rfl (exec_append22 (.tmp 7) (.tmp 8) rfl rfl _ _ rfl rfl hr1) ?_; clear hr1)))
  go_ret
  exact ⟨g, c, rfl, HGG.out, HLR.out, HCM.out, D2.out⟩
/-- sameTexts of equal rows. -/
theorem sameTexts_calls (A B : Option Addr) (c d : Nat) (xs : List ByteArray) (w : World) (ha : Kd.C Kd.string w A xs.length xs) (hb : Kd.C Kd.string w B xs.length xs) (hl : xs.length ≤ 1099511627776) :
    Calls Try.prog 27 #[.slice A xs.length c, .slice B xs.length d] w fun e w' => e = .returned (.bool true) ∧ Below w.heap.size w w' := by
  have HA := Aside0.mk ha
  have HB := Aside0.mk hb
  clear ha hb
  go_enter Try.func27, Try.ntmps27
  go_wp2
  go_loopw [5] (fun v5 W => ∃ i : Nat, i ≤ xs.length ∧ v5 = .int .i64 i ∧ Aside0 (Below w.heap.size w W)) (fun v5 _ => xs.length - (intOf v5).toNat)
  case atStart => exact ⟨0, Nat.zero_le _, rfl, ⟨Below.refl _ _⟩⟩
  case round =>
    obtain ⟨i, hi, rfl, D0⟩ := hrel
    by_cases hlt : i < xs.length
    · have q1 : ((i : Int) < (xs.length : Int)) = True := eq_true (by omega)
      have q2 : (i < xs.length) = True := eq_true hlt
      have q3 : (xs.length ≤ i) = False := eq_false (by omega)
      obtain ⟨ad, rfl, _⟩ := strs_at HA.out i hlt
      obtain ⟨bd, rfl, _⟩ := strs_at HB.out i hlt
      have HXE := Aside0.mk (strs_at' HA.out i hlt)
      have HYE := Aside0.mk (strs_at' HB.out i hlt)
      generalize xs.getD i ByteArray.empty = s at HXE HYE
      have XA := Aside0.mk (below_cell' D0.out HXE.out)
      have XB := Aside0.mk (below_cell' D0.out HYE.out)
      go_upto_region 6 with (fail)
      refine start_ (n := 9) (S := fun W => W.cell? (ad.add i) = some (.string s) ∧ W.cell? (bd.add i) = some (.string s)) (ds := []) #[false, false, false, false, false, false, false, false, false] (by kernel_rfl) rfl rfl ⟨below_cell' (below_drew1 (Below.refl _ _)) XA.out, below_cell' (below_drew1 (Below.refl _ _)) XB.out⟩ (fun hHeld => ?_); refine with_tabW stx.tab6 stx.bits6 (fun HT_ HW_ => ?_)
      have n_D0 := Aside0.mk (below_drew1 D0.out)
      clear D0
      have D0 := n_D0
      clear n_D0
      generalize World.drew _ = wR at D0 hHeld ⊢
      refine pure_ (i := 0) (N := some 17) (v := ?_) (a' := ?_) #[true, false, false, false, false, false, false, false, false] rfl rfl (any_of HT_.out (by kernel_rfl)) (fun _ _ _ h => h) (Or.inl ⟨by rfl, ?_⟩) ?_ ?_
      rotate_left
      · intro w'
        go_simp
        with_reducible rfl
      rotate_left
      · simp only [Act.put, List.setIfInBounds_toArray, List.set_cons_zero, List.set_cons_succ, i64_w, i32_w]
        rfl
      refine pure_ (i := 1) (N := some 18) (v := ?_) (a' := ?_) #[true, true, false, false, false, false, false, false, false] rfl rfl (any_of HT_.out (by kernel_rfl)) (fun _ _ _ h => h) (Or.inl ⟨by rfl, ?_⟩) ?_ ?_
      rotate_left
      · intro w'
        go_simp
        with_reducible rfl
      rotate_left
      · simp only [Act.put, List.setIfInBounds_toArray, List.set_cons_zero, List.set_cons_succ, i64_w, i32_w]
        rfl
      refine pure_ (i := 2) (N := some 19) (v := ?_) (a' := ?_) #[true, true, true, false, false, false, false, false, false] rfl rfl (any_of HT_.out (by kernel_rfl)) (fun _ _ _ h => h) (Or.inl ⟨by rfl, ?_⟩) ?_ ?_
      rotate_left
      · intro w'
        go_simp
        with_reducible rfl
      rotate_left
      · simp only [Act.put, List.setIfInBounds_toArray, List.set_cons_zero, List.set_cons_succ, i64_w, i32_w]
        rfl
      refine take_ (i := 3) (N := some 20) (v := ?_) (a' := ?_) #[true, true, true, true, false, false, false, false, false] rfl rfl (take_ofW HT_.out HW_.out (by kernel_rfl)) (fun _ _ _ h => h) (Or.inl ⟨by rfl, ?_⟩) hHeld ?_ ?_
      rotate_left
      · rintro w' ⟨s0, s1⟩
        go_simp
        with_reducible rfl
      rotate_left
      · simp only [Act.put, List.setIfInBounds_toArray, List.set_cons_zero, List.set_cons_succ, i64_w, i32_w]
        rfl
      refine pure_ (i := 4) (N := some 21) (v := ?_) (a' := ?_) #[true, true, true, true, true, false, false, false, false] rfl rfl (any_of HT_.out (by kernel_rfl)) (fun _ _ _ h => h) (Or.inl ⟨by rfl, ?_⟩) ?_ ?_
      rotate_left
      · intro w'
        go_simp
        with_reducible rfl
      rotate_left
      · simp only [Act.put, List.setIfInBounds_toArray, List.set_cons_zero, List.set_cons_succ, i64_w, i32_w]
        rfl
      refine pure_ (i := 5) (N := some 22) (v := ?_) (a' := ?_) #[true, true, true, true, true, true, false, false, false] rfl rfl (any_of HT_.out (by kernel_rfl)) (fun _ _ _ h => h) (Or.inl ⟨by rfl, ?_⟩) ?_ ?_
      rotate_left
      · intro w'
        go_simp
        with_reducible rfl
      rotate_left
      · simp only [Act.put, List.setIfInBounds_toArray, List.set_cons_zero, List.set_cons_succ, i64_w, i32_w]
        rfl
      refine pure_ (i := 6) (N := some 23) (v := ?_) (a' := ?_) #[true, true, true, true, true, true, true, false, false] rfl rfl (any_of HT_.out (by kernel_rfl)) (fun _ _ _ h => h) (Or.inl ⟨by rfl, ?_⟩) ?_ ?_
      rotate_left
      · intro w'
        go_simp
        with_reducible rfl
      rotate_left
      · simp only [Act.put, List.setIfInBounds_toArray, List.set_cons_zero, List.set_cons_succ, i64_w, i32_w]
        rfl
      refine take_ (i := 7) (N := some 24) (v := ?_) (a' := ?_) #[true, true, true, true, true, true, true, true, false] rfl rfl (take_ofW HT_.out HW_.out (by kernel_rfl)) (fun _ _ _ h => h) (Or.inl ⟨by rfl, ?_⟩) hHeld ?_ ?_
      rotate_left
      · rintro w' ⟨s0, s1⟩
        go_simp
        with_reducible rfl
      rotate_left
      · simp only [Act.put, List.setIfInBounds_toArray, List.set_cons_zero, List.set_cons_succ, i64_w, i32_w]
        rfl
      refine pure_ (i := 8) (N := some 25) (v := ?_) (a' := ?_) #[true, true, true, true, true, true, true, true, true] rfl rfl (any_of HT_.out (by kernel_rfl)) (fun _ _ _ h => h) (Or.inl ⟨by rfl, ?_⟩) ?_ ?_
      rotate_left
      · intro w'
        go_simp
        with_reducible rfl
      rotate_left
      · simp only [Act.put, List.setIfInBounds_toArray, List.set_cons_zero, List.set_cons_succ, i64_w, i32_w]
        rfl
      refine done_ (done_of HT_.out (by kernel_rfl)) ?_
      go_wp2
      go_roundw
      case rel => exact ⟨i + 1, by omega, by go_num, D0⟩
      case measure => simp [intOf]; omega
    · have q1 : ((i : Int) < (xs.length : Int)) = False := eq_false (by omega)
      go_wp2
      go_ret
      exact ⟨rfl, D0.out⟩
/-- kept of lent texts that are as they were. -/
theorem kept_calls (g c : Nat) (A : Option Addr) (cp : Nat) (xs : List ByteArray) (w : World) (hg : LRow g c xs w) (hcm : c ≤ maxLen) (hr : Kd.C Kd.string w A xs.length xs) (hn : xs.length ≤ 1099511627776) :
    Calls Try.prog 11 #[.slice (some ⟨g, 0, none⟩) xs.length c, .slice A xs.length cp] w fun e w' => e = .returned (.bool true) ∧ Below w.heap.size w w' := by
  have HG := Aside0.mk hg
  have HR := Aside0.mk hr
  have hc1 : xs.length + 1 ≤ c := by obtain ⟨cs, _, _, h, _⟩ := hg; omega
  clear hg hr
  go_enter Try.func11, Try.ntmps11
  have hm := lrow_mark HG.out
  have hcm2 : c ≤ 9223372036854775807 := by simp only [maxLen] at hcm; omega
  have q1 : (xs.length + 1 ≤ c) = True := eq_true hc1
  have q2 : (xs.length < xs.length + 1) = True := eq_true (by omega)
  go_wp2_with (first
    | (go_at_call 27; (with_reducible refine (sameTexts_calls _ _ _ _ xs _ (lrow_read HG.out (by omega)) HR.out hn).mono ?_); rintro e w2 ⟨rfl, hb⟩; have D0 := Aside0.mk hb; have hm2 := below_cell' hb hm; clear hb))
  go_ret
  exact ⟨rfl, D0.out⟩
/-- same of equal rows of hashes. -/
theorem same_calls (A B : Option Addr) (c d : Nat) (rows : List (List UInt8)) (w : World) (ha : HRead A rows w) (hb : HRead B rows w) (hl : rows.length ≤ 1099511627776) :
    Calls Try.prog 21 #[.slice A rows.length c, .slice B rows.length d] w fun e w' => e = .returned (.bool true) ∧ Below w.heap.size w w' := by
  have HA0 := Aside0.mk ha
  have HB0 := Aside0.mk hb
  clear ha hb
  go_enter Try.func21, Try.ntmps21
  go_wp2
  go_loopw [5] (fun v5 W => ∃ i : Nat, i ≤ rows.length ∧ v5 = .int .i64 i ∧ Aside0 (Below w.heap.size w W)) (fun v5 _ => rows.length - (intOf v5).toNat)
  case atStart => exact ⟨0, Nat.zero_le _, rfl, ⟨Below.refl _ _⟩⟩
  case round =>
    obtain ⟨i, hi, rfl, D0⟩ := hrel
    by_cases hlt : i < rows.length
    · have q1 : ((i : Int) < (rows.length : Int)) = True := eq_true (by omega)
      have q2 : (i < rows.length) = True := eq_true hlt
      have q3 : (rows.length ≤ i) = False := eq_false (by omega)
      obtain ⟨ad, rfl, _⟩ := HA0.out.2 (by omega)
      obtain ⟨bd, rfl, _⟩ := HB0.out.2 (by omega)
      have HA := Aside0.mk (hread_below HA0.out D0.out)
      have HB := Aside0.mk (hread_below HB0.out D0.out)
      obtain ⟨x, hxe⟩ : ∃ x, x = rows.getD i [] := ⟨_, rfl⟩
      have hx : x.length = 32 := by rw [hxe]; exact hread_len HA0.out i hlt
      have HXE := Aside0.mk hxe
      clear hxe
      have heq := eq32 x x hx hx
      rw [decide_eq_true rfl, B32_brw x hx] at heq
      go_upto_region 6 with (fail)
      refine start_ (n := 9) (S := fun W => HRead (some ad) rows W ∧ HRead (some bd) rows W) (ds := []) #[false, false, false, false, false, false, false, false, false] (by kernel_rfl) rfl rfl ⟨hread_below HA.out (below_drew1 (Below.refl _ _)), hread_below HB.out (below_drew1 (Below.refl _ _))⟩ (fun hHeld => ?_); refine with_tabW shs.tab6 shs.bits6 (fun HT_ HW_ => ?_)
      have n_D0 := Aside0.mk (below_drew1 D0.out)
      clear D0
      have D0 := n_D0
      clear n_D0
      generalize World.drew _ = wR at D0 hHeld ⊢
      refine pure_ (i := 0) (N := some 17) (v := ?_) (a' := ?_) #[true, false, false, false, false, false, false, false, false] rfl rfl (any_of HT_.out (by kernel_rfl)) (fun _ _ _ h => h) (Or.inl ⟨by rfl, ?_⟩) ?_ ?_
      rotate_left
      · intro w'
        go_simp
        with_reducible rfl
      rotate_left
      · simp only [Act.put, List.setIfInBounds_toArray, List.set_cons_zero, List.set_cons_succ, i64_w, i32_w]
        rfl
      refine pure_ (i := 1) (N := some 18) (v := ?_) (a' := ?_) #[true, true, false, false, false, false, false, false, false] rfl rfl (any_of HT_.out (by kernel_rfl)) (fun _ _ _ h => h) (Or.inl ⟨by rfl, ?_⟩) ?_ ?_
      rotate_left
      · intro w'
        go_simp
        with_reducible rfl
      rotate_left
      · simp only [Act.put, List.setIfInBounds_toArray, List.set_cons_zero, List.set_cons_succ, i64_w, i32_w]
        rfl
      refine pure_ (i := 2) (N := some 19) (v := ?_) (a' := ?_) #[true, true, true, false, false, false, false, false, false] rfl rfl (any_of HT_.out (by kernel_rfl)) (fun _ _ _ h => h) (Or.inl ⟨by rfl, ?_⟩) ?_ ?_
      rotate_left
      · intro w'
        go_simp
        with_reducible rfl
      rotate_left
      · simp only [Act.put, List.setIfInBounds_toArray, List.set_cons_zero, List.set_cons_succ, i64_w, i32_w]
        rfl
      refine take_ (i := 3) (N := some 20) (v := ?_) (a' := ?_) #[true, true, true, true, false, false, false, false, false] rfl rfl (take_ofW HT_.out HW_.out (by kernel_rfl)) (fun _ _ _ h => h) (Or.inl ⟨by rfl, ?_⟩) hHeld ?_ ?_
      rotate_left
      · rintro w' ⟨s0, s1⟩
        refine exec_load_hash (.tmp 19) ?_ (ad.add (i * 32)) ?_ x hx (by rw [HXE.out]; exact hread_at s0 i hlt) <;> rfl
      rotate_left
      · simp only [Act.put, List.setIfInBounds_toArray, List.set_cons_zero, List.set_cons_succ, i64_w, i32_w]
        rfl
      refine pure_ (i := 4) (N := some 21) (v := ?_) (a' := ?_) #[true, true, true, true, true, false, false, false, false] rfl rfl (any_of HT_.out (by kernel_rfl)) (fun _ _ _ h => h) (Or.inl ⟨by rfl, ?_⟩) ?_ ?_
      rotate_left
      · intro w'
        go_simp
        with_reducible rfl
      rotate_left
      · simp only [Act.put, List.setIfInBounds_toArray, List.set_cons_zero, List.set_cons_succ, i64_w, i32_w]
        rfl
      refine pure_ (i := 5) (N := some 22) (v := ?_) (a' := ?_) #[true, true, true, true, true, true, false, false, false] rfl rfl (any_of HT_.out (by kernel_rfl)) (fun _ _ _ h => h) (Or.inl ⟨by rfl, ?_⟩) ?_ ?_
      rotate_left
      · intro w'
        go_simp
        with_reducible rfl
      rotate_left
      · simp only [Act.put, List.setIfInBounds_toArray, List.set_cons_zero, List.set_cons_succ, i64_w, i32_w]
        rfl
      refine pure_ (i := 6) (N := some 23) (v := ?_) (a' := ?_) #[true, true, true, true, true, true, true, false, false] rfl rfl (any_of HT_.out (by kernel_rfl)) (fun _ _ _ h => h) (Or.inl ⟨by rfl, ?_⟩) ?_ ?_
      rotate_left
      · intro w'
        go_simp
        with_reducible rfl
      rotate_left
      · simp only [Act.put, List.setIfInBounds_toArray, List.set_cons_zero, List.set_cons_succ, i64_w, i32_w]
        rfl
      refine take_ (i := 7) (N := some 24) (v := ?_) (a' := ?_) #[true, true, true, true, true, true, true, true, false] rfl rfl (take_ofW HT_.out HW_.out (by kernel_rfl)) (fun _ _ _ h => h) (Or.inl ⟨by rfl, ?_⟩) hHeld ?_ ?_
      rotate_left
      · rintro w' ⟨s0, s1⟩
        refine exec_load_hash (.tmp 23) ?_ (bd.add (i * 32)) ?_ x hx (by rw [HXE.out]; exact hread_at s1 i hlt) <;> rfl
      rotate_left
      · simp only [Act.put, List.setIfInBounds_toArray, List.set_cons_zero, List.set_cons_succ, i64_w, i32_w]
        rfl
      refine pure_ (i := 8) (N := some 25) (v := ?_) (a' := ?_) #[true, true, true, true, true, true, true, true, true] rfl rfl (any_of HT_.out (by kernel_rfl)) (fun _ _ _ h => h) (Or.inl ⟨by rfl, ?_⟩) ?_ ?_
      rotate_left
      · intro w'
        go_simp
        with_reducible rfl
      rotate_left
      · simp only [Act.put, List.setIfInBounds_toArray, List.set_cons_zero, List.set_cons_succ, i64_w, i32_w]
        rfl
      refine done_ (done_of HT_.out (by kernel_rfl)) ?_
      go_wp2
      go_roundw
      case rel => exact ⟨i + 1, by omega, by go_num, D0⟩
      case measure => simp [intOf]; omega
    · have q1 : ((i : Int) < (rows.length : Int)) = False := eq_false (by omega)
      go_wp2
      go_ret
      exact ⟨rfl, D0.out⟩
end Go.Proofs.Ythpnppfpmhlkaaa.Sha
namespace Go.Proofs.Ythpnppfpmhlkaaa.Sha
open Go.RowKit Go.Proofs.Ythpnppfpmhlkaaa.X Go.Proofs.YthpnppfpmhlkaaaW.PrintWords Go.Proofs.YthpnppfpmhlkaaaW.PrintLast Go.Proofs.YthpnppfpmhlkaaaW.PrintMore
set_option linter.unusedVariables false
set_option linter.unusedSimpArgs false

def fst.T5 : Bool × List (List Nat × List Nat) := (true, [([], []), ([0], [0]), ([1], [1]), ([2], [2]), ([3], [3]), ([4, 3], [3, 4]), ([5, 3], [3, 5]), ([3, 6], [3, 6]), ([7, 3], [7]), ([8], [8]), ([9, 8], [8, 9]), ([10, 8], [8, 10]), ([8, 11], [8, 11]), ([12, 8], [12]), ([13], [13]), ([14, 13], [13, 14]), ([15, 13], [13, 15]), ([13, 16], [13, 16]), ([17, 13], [17]), ([18], [18]), ([19, 18], [18, 19]), ([20, 18], [18, 20]), ([18, 21], [18, 21]), ([22, 18], [22]), ([23], [23]), ([24, 23], [23, 24]), ([25, 23], [23, 25]), ([23, 26], [23, 26]), ([27, 23], [27]), ([28], [28]), ([29, 28], [28, 29]), ([28, 30], [28, 30]), ([31, 28], [31]), ([32], [32]), ([33, 32], [32, 33]), ([32, 34], [32, 34]), ([35, 32], [35]), ([36], [36]), ([37, 36], [36, 37]), ([38, 36], [36, 38]), ([36, 39], [36, 39]), ([40, 36], [40]), ([41], [41]), ([42, 41], [41, 42]), ([43, 41], [41, 43]), ([41, 41], [41]), ([45, 41], [41]), ([45, 46, 46, 41], [41, 45, 46]), ([44, 47, 41], [41, 44, 47]), ([41, 48], [41, 48]), ([49, 47], [49]), ([50], [50]), ([51, 50, 50], [50, 51]), ([50, 52], [50, 52]), ([53, 52], [53]), ([54], [54]), ([55, 54, 54], [54, 55]), ([56, 54], [54, 56]), ([54, 57], [54, 57]), ([58, 56, 0, 1, 2, 3, 4, 5, 6, 7, 8, 9, 10, 11, 12, 13, 14, 15, 16, 17, 18, 19, 20, 21, 22, 23, 24, 25, 26, 27, 28, 29, 30, 31, 32, 33, 34, 35, 36, 37, 38, 39, 40, 41, 42, 43, 44, 45, 46, 47, 48, 49, 50, 51, 52, 53, 54, 55, 56, 57, 58], [58])])
def fst.B5 : List Nat := [0, 1, 3, 7, 15, 31, 63, 127, 255, 511, 1023, 2047, 4095, 8191, 16383, 32767, 65535, 131071, 262143, 524287, 1048575, 2097151, 4194303, 8388607, 16777215, 33554431, 67108863, 134217727, 268435455, 536870911, 1073741823, 2147483647, 4294967295, 8589934591, 17179869183, 34359738367, 68719476735, 137438953471, 274877906943, 549755813887, 1099511627775, 2199023255551, 4398046511103, 8796093022207, 17592186044415, 4398046511103, 39582418599935, 109951162777599, 281474976710655, 562949953421311, 1125899906842623, 2251799813685247, 4503599627370495, 9007199254740991, 18014398509481983, 36028797018963967, 72057594037927935, 144115188075855871, 288230376151711743, 576460752303423487]
theorem fst.tab5 : rtab .any (opsOf Try.f16 5) = fst.T5 := by kernel_rfl
theorem fst.bits5 : waitsOk fst.T5.2 fst.B5 = true := by kernel_rfl
/-- A hash is stored in an array of its own. -/
theorem wpList_put_new {ops : Array Oper} {rest : List Oper} {op : Oper} {act : Act} {w : World} {Q : Exit → Act → World → Prop} (hgd : op.guard = none) (x y : Operand) (ho : op.op = .store 23 x y) (S : List UInt8) (hS : S.length = 32) (hx : act.eval x = .pointer (some ⟨w.heap.size, 0, none⟩)) (hy : act.eval y = .agg (brw 32 S))
    (h : ∀ W' : World, W'.heap[w.heap.size]? = some (.cells (brw 32 S) 23 (0, 0)) → Below w.heap.size w W' → wpList Try.prog ops Q rest (act.put op.dst undef) W') : wpList Try.prog ops Q (op :: rest) act (w.alloc (.cells (brw 32 []) 23)) := by
  have i23 : (Try.prog.info? 23).map (·.size) = some 32 := by kernel_rfl
  have hz0 : (brw 32 []).size = 32 := rfl
  have hzS : (brw 32 S).size = 32 := brw_size 32 S (by omega)
  exact wpList_store_row hgd 23 x y ho w.heap.size (brw 32 S) hx hy 23 (brw 32 []) (blk_new _ _) (by rw [hzS]; exact i23) (by rw [hzS, hz0]) (brw_one _ _) (h _ (setRow_heap _ w.heap.size _ (brw 32 S) _ _ (blk_new w (.cells (brw 32 []) 23))) (below_setRow (below_alloc (Below.refl w.heap.size w) (.cells (brw 32 []) 23)) (Nat.le_refl _) (brw 32 S)))
theorem leaf_agg (s : ByteArray) (h : s.size ≤ 140737488355000) (W : World) : Calls Try.prog 12 #[.string s] W fun e w' => e = .returned (.agg (brw 32 (leafF s.data.toList))) ∧ Below W.heap.size W w' := by
  have := leaf_calls s.data.toList W (by rw [Array.length_toList]; exact h)
  rw [tx_toList, B32_brw _ (leafF_len _)] at this
  exact this
theorem node_agg (x y : List UInt8) (hx : x.length = 32) (hy : y.length = 32) (W : World) : Calls Try.prog 14 #[.agg (brw 32 x), .agg (brw 32 y)] W fun e w' => e = .returned (.agg (brw 32 (nodeF x y))) ∧ Below W.heap.size W w' := by
  have := node_calls x y hx hy W
  rw [B32_brw _ hx, B32_brw _ hy, B32_brw _ (nodeF_len _ _)] at this
  exact this
theorem rootF_len (xs : List ByteArray) : (rootF xs).length = 32 := by
  unfold rootF
  split
  · exact sumF_len _
  · exact up_32 _ _ (Nat.le_refl _) (by rw [tl_len]; omega) (tl_32 xs)
theorem root_agg (A : Option Addr) (cp : Nat) (xs : List ByteArray) (w : World) (hr : Kd.C Kd.string w A xs.length xs) (hcp : xs.length ≤ cp) (hn : xs.length ≤ 1099511627776) (hsz : ∀ s ∈ xs, s.size ≤ 140737488355000) :
    Calls Try.prog 9 #[.slice A xs.length cp] w fun e w' => e = .returned (.agg (brw 32 (rootF xs))) ∧ Below w.heap.size w w' := by
  have := root_calls A cp xs w hr hcp hn hsz
  rw [B32_brw _ (rootF_len xs)] at this
  exact this.mono fun e w' h => ⟨h.1, h.2.2⟩
set_option maxHeartbeats 8000000 in
set_option maxRecDepth 100000 in
theorem first_calls (w : World) : Calls Try.prog 16 #[] w fun e w' => e = .returned (.bool true) ∧ Below w.heap.size w w' := by
  have i23 : (Try.prog.info? 23).map (·.size) = some 32 := by kernel_rfl
  obtain ⟨L0, hL⟩ : ∃ x, x = leafF [] := ⟨_, rfl⟩
  obtain ⟨R0, hR⟩ : ∃ x, x = rootF [⟨#[]⟩, ⟨#[0]⟩] := ⟨_, rfl⟩
  obtain ⟨La, ha⟩ : ∃ x, x = leafF [97] := ⟨_, rfl⟩
  obtain ⟨Lb, hb⟩ : ∃ x, x = leafF [98] := ⟨_, rfl⟩
  obtain ⟨N0, hN⟩ : ∃ x, x = nodeF La Lb := ⟨_, rfl⟩
  have hL0 : L0.length = 32 := by rw [hL]; exact leafF_len _
  have hR0 : R0.length = 32 := by rw [hR]; exact rootF_len _
  have hLa : La.length = 32 := by rw [ha]; exact leafF_len _
  have hLb : Lb.length = 32 := by rw [hb]; exact leafF_len _
  have hN0 : N0.length = 32 := by rw [hN]; exact nodeF_len _ _
  have HL : ∀ W : World, Calls Try.prog 12 #[.string ⟨#[]⟩] W fun e w' => e = .returned (.agg (brw 32 L0)) ∧ Below W.heap.size W w' := fun W => by rw [hL]; exact leaf_agg ⟨#[]⟩ (by decide) W
  have HA : ∀ W : World, Calls Try.prog 12 #[.string ⟨#[97]⟩] W fun e w' => e = .returned (.agg (brw 32 La)) ∧ Below W.heap.size W w' := fun W => by rw [ha]; exact leaf_agg ⟨#[97]⟩ (by decide) W
  have HB : ∀ W : World, Calls Try.prog 12 #[.string ⟨#[98]⟩] W fun e w' => e = .returned (.agg (brw 32 Lb)) ∧ Below W.heap.size W w' := fun W => by rw [hb]; exact leaf_agg ⟨#[98]⟩ (by decide) W
  have HN1 : ∀ W : World, Calls Try.prog 14 #[.agg (brw 32 La), .agg (brw 32 Lb)] W fun e w' => e = .returned (.agg (brw 32 N0)) ∧ Below W.heap.size W w' := fun W => by rw [hN]; exact node_agg La Lb hLa hLb W
  have hcell : ∀ (W : World) (g : Nat) (x : List UInt8) (j : Nat) (c : UInt8), W.heap[g]? = some (.cells (brw 32 x) 23 (0, 0)) → x.length = 32 → x[j]? = some c → W.cell? ⟨g, j, none⟩ = some (.int .u8 c.toNat) := fun W g x j c h hx hj => by
    rw [blk_cell h, brw_full 32 x hx, List.getElem?_toArray]
    show (x.map fun c => Value.int .u8 c.toNat)[j]? = _
    rw [List.getElem?_map, hj]; rfl
  have HR2 : ∀ W : World, Calls Try.prog 9 #[.slice (some ⟨W.heap.size, 0, none⟩) 2 2] (W.alloc (.cells #[.string ⟨#[]⟩, .string ⟨#[0]⟩] 9)) fun e w' => e = .returned (.agg (brw 32 R0)) ∧ Below W.heap.size W w' := fun W => by
    rw [hR]
    refine (root_agg (some ⟨W.heap.size, 0, none⟩) 2 [⟨#[]⟩, ⟨#[0]⟩] (W.alloc (.cells #[.string ⟨#[]⟩, .string ⟨#[0]⟩] 9)) (texts_block [⟨#[]⟩, ⟨#[0]⟩] (by decide) (blk_new _ _) (fun j hj => ?_)) (Nat.le_refl _) (by decide) (fun s hs => ?_)).mono ?_
    · match j, hj with
      | 0, _ => rfl
      | 1, _ => rfl
    · simp only [List.mem_cons, List.not_mem_nil, or_false] at hs
      rcases hs with rfl | rfl <;> decide
    · rintro e w' ⟨rfl, hb⟩
      exact ⟨rfl, below_then (below_alloc (Below.refl _ _) _) (below_alloc (Below.refl _ _) _).size hb⟩
  have HP3 : ∀ W : World, Calls Try.prog 17 #[.slice (some ⟨W.heap.size, 0, none⟩) 3 3, .int .i64 2] (W.alloc (.cells #[.string ⟨#[97]⟩, .string ⟨#[98]⟩, .string ⟨#[99]⟩] 9)) fun e w' => ∃ ad c, e = .returned (.tuple #[.slice (some ad) 1 c, .int .i64 0]) ∧ HRead (some ad) [N0] w' ∧ Below W.heap.size W w' := fun W => by
    refine (path_calls (some ⟨W.heap.size, 0, none⟩) 3 [⟨#[97]⟩, ⟨#[98]⟩, ⟨#[99]⟩] 2 (W.alloc (.cells #[.string ⟨#[97]⟩, .string ⟨#[98]⟩, .string ⟨#[99]⟩] 9)) (texts_block [⟨#[97]⟩, ⟨#[98]⟩, ⟨#[99]⟩] (by decide) (blk_new _ _) (fun j hj => ?_)) (Nat.le_refl _) (by decide) (fun s hs => ?_)).mono ?_
    · match j, hj with
      | 0, _ => rfl
      | 1, _ => rfl
      | 2, _ => rfl
    · simp only [List.mem_cons, List.not_mem_nil, or_false] at hs
      rcases hs with rfl | rfl | rfl <;> decide
    · rintro e w' ⟨v, rfl, hh, hb⟩
      obtain ⟨e1, e2⟩ := path_three ⟨#[97]⟩ ⟨#[98]⟩ ⟨#[99]⟩
      have e3 : pathF [⟨#[97]⟩, ⟨#[98]⟩, ⟨#[99]⟩] 2 = [N0] := by rw [e1, hN, ha, ‹Lb = _›]
      rw [e3] at hh
      obtain ⟨A, c, rfl, hc, h1⟩ := hrow_read hh
      obtain ⟨ad, rfl, _⟩ := h1.2 (Nat.zero_lt_one)
      exact ⟨ad, c, by rw [e2]; rfl, h1, below_then (below_alloc (Below.refl _ _) _) (below_alloc (Below.refl _ _) _).size hb⟩
  have HP0 : ∀ W : World, Calls Try.prog 17 #[.slice none 0 0, .int .i64 0] W fun e w' => ∃ v, e = .returned (.tuple #[v, .int .i64 1]) ∧ Below W.heap.size W w' := fun W => by
    refine (path_calls none 0 [] 0 W ⟨rfl, by decide, fun h => by cases h⟩ (Nat.le_refl _) (by decide) (fun s hs => by cases hs)).mono ?_
    rintro e w' ⟨v, rfl, hh, hb⟩
    exact ⟨v, by rw [(path_none 0).2], hb⟩
  have HY : ∀ W : World, Calls Try.prog 19 #[.agg (brw 32 L0), .int .i64 1, .int .i64 0, .string ⟨#[]⟩, .slice none 0 0] W fun e w' => e = .returned (.bool true) ∧ Below W.heap.size W w' := fun W => by
    have := holds_calls L0 hL0 1 0 (by decide) ⟨#[]⟩ (by decide) none 0 [] W (Nat.le_refl _) ⟨fun x h => (by cases h), fun h => (by cases h)⟩
    rw [hL, holds_yes, ← hL] at this
    exact this
  have HZ : ∀ W : World, Calls Try.prog 19 #[.agg (brw 32 R0), .int .i64 1, .int .i64 0, .string ⟨#[]⟩, .slice none 0 0] W fun e w' => e = .returned (.bool false) ∧ Below W.heap.size W w' := fun W => by
    have := holds_calls R0 hR0 1 0 (by decide) ⟨#[]⟩ (by decide) none 0 [] W (Nat.le_refl _) ⟨fun x h => (by cases h), fun h => (by cases h)⟩
    rw [hR, holds_no, ← hR] at this
    exact this
  have hk0 : L0[0]? = some 110 := by rw [hL, leaf_e]; rfl
  have hk1 : L0[1]? = some 52 := by rw [hL, leaf_e]; rfl
  have hk2 : L0[31]? = some 29 := by rw [hL, leaf_e]; rfl
  have hk3 : R0[0]? = some 250 := by rw [hR, root_two]; rfl
  have hk4 : R0[1]? = some 197 := by rw [hR, root_two]; rfl
  have hk5 : R0[31]? = some 37 := by rw [hR, root_two]; rfl
  have heq := eq32 N0 N0 hN0 hN0
  rw [decide_eq_true rfl, B32_brw N0 hN0] at heq
  clear hL hR ha hb hN
  go_enter Try.func16, Try.ntmps16
  go_upto_region 5 with (first
    | (go_at_call 12; (with_reducible refine (HL _).mono ?_); rintro e w1 ⟨rfl, hb⟩; have D0 := Aside0.mk hb; clear hb)
    | ((with_reducible refine gate_store rfl ?_); refine wpList_put_new rfl (.tmp 1) (.tmp 7) rfl L0 hL0 rfl rfl (fun w2 hc hb => ?_); have C1 := Aside0.mk hc; have n_D0 := Aside0.mk (below_then D0.out D0.out.size hb); clear D0 hc hb; have D0 := n_D0; clear n_D0)
    | (go_at_call 9; (refine (HR2 w2).mono ?_); rintro e w3 ⟨rfl, hb⟩; have n_C1 := Aside0.mk (blk_below C1.out hb); have n_D0 := Aside0.mk (below_then D0.out D0.out.size hb); clear D0 C1 hb; have D0 := n_D0; have C1 := n_C1; clear n_D0 n_C1)
    | ((with_reducible refine gate_store rfl ?_); refine wpList_put_new rfl (.tmp 2) (.tmp 9) rfl R0 hR0 rfl rfl (fun w4 hc hb => ?_); have C2 := Aside0.mk hc; have n_C1 := Aside0.mk (blk_below C1.out hb); have n_D0 := Aside0.mk (below_then D0.out D0.out.size hb); clear D0 C1 hc hb; have D0 := n_D0; have C1 := n_C1; clear n_D0 n_C1)
    | (go_at_call 17; (with_reducible refine (HP0 _).mono ?_); rintro e w8 ⟨v8, rfl, hb⟩; have n_HN := Aside0.mk (hread_below HN.out hb); have n_C2 := Aside0.mk (blk_below C2.out hb); have n_C1 := Aside0.mk (blk_below C1.out hb); have n_D0 := Aside0.mk (below_then D0.out D0.out.size hb); clear D0 C1 C2 HN hb; have D0 := n_D0; have C1 := n_C1; have C2 := n_C2; have HN := n_HN; clear n_D0 n_C1 n_C2 n_HN)
    | (go_at_call 17; (refine (HP3 w4).mono ?_); rintro e w6 ⟨ad, c, rfl, hh, hb⟩; have HN := Aside0.mk hh; have n_C2 := Aside0.mk (blk_below C2.out hb); have n_C1 := Aside0.mk (blk_below C1.out hb); have n_D0 := Aside0.mk (below_then D0.out D0.out.size hb); clear D0 C1 C2 hb hh; have D0 := n_D0; have C1 := n_C1; have C2 := n_C2; clear n_D0 n_C1 n_C2))
  have K0 := Aside0.mk (hcell _ _ _ 0 _ C1.out hL0 hk0)
  have K1 := Aside0.mk (hcell _ _ _ 1 _ C1.out hL0 hk1)
  have K2 := Aside0.mk (hcell _ _ _ 31 _ C1.out hL0 hk2)
  have K3 := Aside0.mk (hcell _ _ _ 0 _ C2.out hR0 hk3)
  have K4 := Aside0.mk (hcell _ _ _ 1 _ C2.out hR0 hk4)
  have K5 := Aside0.mk (hcell _ _ _ 31 _ C2.out hR0 hk5)
  clear hk0 hk1 hk2 hk3 hk4 hk5
  refine start_ (n := 60) (S := fun W => Below w8.heap.size w8 W) (ds := []) #[false, false, false, false, false, false, false, false, false, false, false, false, false, false, false, false, false, false, false, false, false, false, false, false, false, false, false, false, false, false, false, false, false, false, false, false, false, false, false, false, false, false, false, false, false, false, false, false, false, false, false, false, false, false, false, false, false, false, false, false] (by kernel_rfl) rfl rfl (below_drew1 (Below.refl _ _)) (fun hHeld => ?_); refine with_tabW fst.tab5 fst.bits5 (fun HT_ HW_ => ?_)
  generalize World.drew _ = wR at hHeld ⊢
  refine pure_ (i := 0) (N := some 19) (v := ?_) (a' := ?_) #[true, false, false, false, false, false, false, false, false, false, false, false, false, false, false, false, false, false, false, false, false, false, false, false, false, false, false, false, false, false, false, false, false, false, false, false, false, false, false, false, false, false, false, false, false, false, false, false, false, false, false, false, false, false, false, false, false, false, false, false] rfl rfl (any_of HT_.out (by kernel_rfl)) (fun _ _ _ h => h) (Or.inl ⟨by rfl, ?_⟩) ?_ ?_
  rotate_left
  · intro w'
    go_simp
    with_reducible rfl
  rotate_left
  · simp only [Act.put, List.setIfInBounds_toArray, List.set_cons_zero, List.set_cons_succ, i64_w, i32_w]
    rfl
  refine take_ (i := 1) (N := some 20) (v := ?_) (a' := ?_) #[true, true, false, false, false, false, false, false, false, false, false, false, false, false, false, false, false, false, false, false, false, false, false, false, false, false, false, false, false, false, false, false, false, false, false, false, false, false, false, false, false, false, false, false, false, false, false, false, false, false, false, false, false, false, false, false, false, false, false, false] rfl rfl (take_ofW HT_.out HW_.out (by kernel_rfl)) (fun _ _ _ h => h) (Or.inl ⟨by rfl, ?_⟩) hHeld ?_ ?_
  rotate_left
  · rintro w' s0
    have hK := below_cell' s0 K0.out
    go_simp
    with_reducible rfl
  rotate_left
  · simp only [Act.put, List.setIfInBounds_toArray, List.set_cons_zero, List.set_cons_succ, i64_w, i32_w]
    rfl
  refine pure_ (i := 2) (N := some 21) (v := ?_) (a' := ?_) #[true, true, true, false, false, false, false, false, false, false, false, false, false, false, false, false, false, false, false, false, false, false, false, false, false, false, false, false, false, false, false, false, false, false, false, false, false, false, false, false, false, false, false, false, false, false, false, false, false, false, false, false, false, false, false, false, false, false, false, false] rfl rfl (any_of HT_.out (by kernel_rfl)) (fun _ _ _ h => h) (Or.inl ⟨by rfl, ?_⟩) ?_ ?_
  rotate_left
  · intro w'
    go_simp
    with_reducible rfl
  rotate_left
  · simp only [Act.put, List.setIfInBounds_toArray, List.set_cons_zero, List.set_cons_succ, i64_w, i32_w]
    rfl
  refine pure_ (i := 3) (N := some 22) (v := ?_) (a' := ?_) #[true, true, true, true, false, false, false, false, false, false, false, false, false, false, false, false, false, false, false, false, false, false, false, false, false, false, false, false, false, false, false, false, false, false, false, false, false, false, false, false, false, false, false, false, false, false, false, false, false, false, false, false, false, false, false, false, false, false, false, false] rfl rfl (any_of HT_.out (by kernel_rfl)) (fun _ _ _ h => h) (Or.inl ⟨by rfl, ?_⟩) ?_ ?_
  rotate_left
  · intro w'
    go_simp
    with_reducible rfl
  rotate_left
  · simp only [Act.put, List.setIfInBounds_toArray, List.set_cons_zero, List.set_cons_succ, i64_w, i32_w]
    rfl
  refine pure_ (i := 4) (N := some 23) (v := ?_) (a' := ?_) #[true, true, true, true, true, false, false, false, false, false, false, false, false, false, false, false, false, false, false, false, false, false, false, false, false, false, false, false, false, false, false, false, false, false, false, false, false, false, false, false, false, false, false, false, false, false, false, false, false, false, false, false, false, false, false, false, false, false, false, false] rfl rfl (any_of HT_.out (by kernel_rfl)) (fun _ _ _ h => h) (Or.inl ⟨by rfl, ?_⟩) ?_ ?_
  rotate_left
  · intro w'
    go_simp
    with_reducible rfl
  rotate_left
  · simp only [Act.put, List.setIfInBounds_toArray, List.set_cons_zero, List.set_cons_succ, i64_w, i32_w]
    rfl
  refine take_ (i := 5) (N := some 24) (v := ?_) (a' := ?_) #[true, true, true, true, true, true, false, false, false, false, false, false, false, false, false, false, false, false, false, false, false, false, false, false, false, false, false, false, false, false, false, false, false, false, false, false, false, false, false, false, false, false, false, false, false, false, false, false, false, false, false, false, false, false, false, false, false, false, false, false] rfl rfl (take_ofW HT_.out HW_.out (by kernel_rfl)) (fun _ _ _ h => h) (Or.inl ⟨by rfl, ?_⟩) hHeld ?_ ?_
  rotate_left
  · rintro w' s0
    have hK := below_cell' s0 K1.out
    go_simp
    with_reducible rfl
  rotate_left
  · simp only [Act.put, List.setIfInBounds_toArray, List.set_cons_zero, List.set_cons_succ, i64_w, i32_w]
    rfl
  refine pure_ (i := 6) (N := some 25) (v := ?_) (a' := ?_) #[true, true, true, true, true, true, true, false, false, false, false, false, false, false, false, false, false, false, false, false, false, false, false, false, false, false, false, false, false, false, false, false, false, false, false, false, false, false, false, false, false, false, false, false, false, false, false, false, false, false, false, false, false, false, false, false, false, false, false, false] rfl rfl (any_of HT_.out (by kernel_rfl)) (fun _ _ _ h => h) (Or.inl ⟨by rfl, ?_⟩) ?_ ?_
  rotate_left
  · intro w'
    go_simp
    with_reducible rfl
  rotate_left
  · simp only [Act.put, List.setIfInBounds_toArray, List.set_cons_zero, List.set_cons_succ, i64_w, i32_w]
    rfl
  refine pure_ (i := 7) (N := some 26) (v := ?_) (a' := ?_) #[true, true, true, true, true, true, true, true, false, false, false, false, false, false, false, false, false, false, false, false, false, false, false, false, false, false, false, false, false, false, false, false, false, false, false, false, false, false, false, false, false, false, false, false, false, false, false, false, false, false, false, false, false, false, false, false, false, false, false, false] rfl rfl (any_of HT_.out (by kernel_rfl)) (fun _ _ _ h => h) (Or.inl ⟨by rfl, ?_⟩) ?_ ?_
  rotate_left
  · intro w'
    go_simp
    with_reducible rfl
  rotate_left
  · simp only [Act.put, List.setIfInBounds_toArray, List.set_cons_zero, List.set_cons_succ, i64_w, i32_w]
    rfl
  refine pure_ (i := 8) (N := some 27) (v := ?_) (a' := ?_) #[true, true, true, true, true, true, true, true, true, false, false, false, false, false, false, false, false, false, false, false, false, false, false, false, false, false, false, false, false, false, false, false, false, false, false, false, false, false, false, false, false, false, false, false, false, false, false, false, false, false, false, false, false, false, false, false, false, false, false, false] rfl rfl (any_of HT_.out (by kernel_rfl)) (fun _ _ _ h => h) (Or.inl ⟨by rfl, ?_⟩) ?_ ?_
  rotate_left
  · intro w'
    go_simp
    with_reducible rfl
  rotate_left
  · simp only [Act.put, List.setIfInBounds_toArray, List.set_cons_zero, List.set_cons_succ, i64_w, i32_w]
    rfl
  refine pure_ (i := 9) (N := some 28) (v := ?_) (a' := ?_) #[true, true, true, true, true, true, true, true, true, true, false, false, false, false, false, false, false, false, false, false, false, false, false, false, false, false, false, false, false, false, false, false, false, false, false, false, false, false, false, false, false, false, false, false, false, false, false, false, false, false, false, false, false, false, false, false, false, false, false, false] rfl rfl (any_of HT_.out (by kernel_rfl)) (fun _ _ _ h => h) (Or.inl ⟨by rfl, ?_⟩) ?_ ?_
  rotate_left
  · intro w'
    go_simp
    with_reducible rfl
  rotate_left
  · simp only [Act.put, List.setIfInBounds_toArray, List.set_cons_zero, List.set_cons_succ, i64_w, i32_w]
    rfl
  refine take_ (i := 10) (N := some 29) (v := ?_) (a' := ?_) #[true, true, true, true, true, true, true, true, true, true, true, false, false, false, false, false, false, false, false, false, false, false, false, false, false, false, false, false, false, false, false, false, false, false, false, false, false, false, false, false, false, false, false, false, false, false, false, false, false, false, false, false, false, false, false, false, false, false, false, false] rfl rfl (take_ofW HT_.out HW_.out (by kernel_rfl)) (fun _ _ _ h => h) (Or.inl ⟨by rfl, ?_⟩) hHeld ?_ ?_
  rotate_left
  · rintro w' s0
    have hK := below_cell' s0 K2.out
    go_simp
    with_reducible rfl
  rotate_left
  · simp only [Act.put, List.setIfInBounds_toArray, List.set_cons_zero, List.set_cons_succ, i64_w, i32_w]
    rfl
  refine pure_ (i := 11) (N := some 30) (v := ?_) (a' := ?_) #[true, true, true, true, true, true, true, true, true, true, true, true, false, false, false, false, false, false, false, false, false, false, false, false, false, false, false, false, false, false, false, false, false, false, false, false, false, false, false, false, false, false, false, false, false, false, false, false, false, false, false, false, false, false, false, false, false, false, false, false] rfl rfl (any_of HT_.out (by kernel_rfl)) (fun _ _ _ h => h) (Or.inl ⟨by rfl, ?_⟩) ?_ ?_
  rotate_left
  · intro w'
    go_simp
    with_reducible rfl
  rotate_left
  · simp only [Act.put, List.setIfInBounds_toArray, List.set_cons_zero, List.set_cons_succ, i64_w, i32_w]
    rfl
  refine pure_ (i := 12) (N := some 31) (v := ?_) (a' := ?_) #[true, true, true, true, true, true, true, true, true, true, true, true, true, false, false, false, false, false, false, false, false, false, false, false, false, false, false, false, false, false, false, false, false, false, false, false, false, false, false, false, false, false, false, false, false, false, false, false, false, false, false, false, false, false, false, false, false, false, false, false] rfl rfl (any_of HT_.out (by kernel_rfl)) (fun _ _ _ h => h) (Or.inl ⟨by rfl, ?_⟩) ?_ ?_
  rotate_left
  · intro w'
    go_simp
    with_reducible rfl
  rotate_left
  · simp only [Act.put, List.setIfInBounds_toArray, List.set_cons_zero, List.set_cons_succ, i64_w, i32_w]
    rfl
  refine pure_ (i := 13) (N := some 32) (v := ?_) (a' := ?_) #[true, true, true, true, true, true, true, true, true, true, true, true, true, true, false, false, false, false, false, false, false, false, false, false, false, false, false, false, false, false, false, false, false, false, false, false, false, false, false, false, false, false, false, false, false, false, false, false, false, false, false, false, false, false, false, false, false, false, false, false] rfl rfl (any_of HT_.out (by kernel_rfl)) (fun _ _ _ h => h) (Or.inl ⟨by rfl, ?_⟩) ?_ ?_
  rotate_left
  · intro w'
    go_simp
    with_reducible rfl
  rotate_left
  · simp only [Act.put, List.setIfInBounds_toArray, List.set_cons_zero, List.set_cons_succ, i64_w, i32_w]
    rfl
  refine pure_ (i := 14) (N := some 33) (v := ?_) (a' := ?_) #[true, true, true, true, true, true, true, true, true, true, true, true, true, true, true, false, false, false, false, false, false, false, false, false, false, false, false, false, false, false, false, false, false, false, false, false, false, false, false, false, false, false, false, false, false, false, false, false, false, false, false, false, false, false, false, false, false, false, false, false] rfl rfl (any_of HT_.out (by kernel_rfl)) (fun _ _ _ h => h) (Or.inl ⟨by rfl, ?_⟩) ?_ ?_
  rotate_left
  · intro w'
    go_simp
    with_reducible rfl
  rotate_left
  · simp only [Act.put, List.setIfInBounds_toArray, List.set_cons_zero, List.set_cons_succ, i64_w, i32_w]
    rfl
  refine take_ (i := 15) (N := some 34) (v := ?_) (a' := ?_) #[true, true, true, true, true, true, true, true, true, true, true, true, true, true, true, true, false, false, false, false, false, false, false, false, false, false, false, false, false, false, false, false, false, false, false, false, false, false, false, false, false, false, false, false, false, false, false, false, false, false, false, false, false, false, false, false, false, false, false, false] rfl rfl (take_ofW HT_.out HW_.out (by kernel_rfl)) (fun _ _ _ h => h) (Or.inl ⟨by rfl, ?_⟩) hHeld ?_ ?_
  rotate_left
  · rintro w' s0
    have hK := below_cell' s0 K3.out
    go_simp
    with_reducible rfl
  rotate_left
  · simp only [Act.put, List.setIfInBounds_toArray, List.set_cons_zero, List.set_cons_succ, i64_w, i32_w]
    rfl
  refine pure_ (i := 16) (N := some 35) (v := ?_) (a' := ?_) #[true, true, true, true, true, true, true, true, true, true, true, true, true, true, true, true, true, false, false, false, false, false, false, false, false, false, false, false, false, false, false, false, false, false, false, false, false, false, false, false, false, false, false, false, false, false, false, false, false, false, false, false, false, false, false, false, false, false, false, false] rfl rfl (any_of HT_.out (by kernel_rfl)) (fun _ _ _ h => h) (Or.inl ⟨by rfl, ?_⟩) ?_ ?_
  rotate_left
  · intro w'
    go_simp
    with_reducible rfl
  rotate_left
  · simp only [Act.put, List.setIfInBounds_toArray, List.set_cons_zero, List.set_cons_succ, i64_w, i32_w]
    rfl
  refine pure_ (i := 17) (N := some 36) (v := ?_) (a' := ?_) #[true, true, true, true, true, true, true, true, true, true, true, true, true, true, true, true, true, true, false, false, false, false, false, false, false, false, false, false, false, false, false, false, false, false, false, false, false, false, false, false, false, false, false, false, false, false, false, false, false, false, false, false, false, false, false, false, false, false, false, false] rfl rfl (any_of HT_.out (by kernel_rfl)) (fun _ _ _ h => h) (Or.inl ⟨by rfl, ?_⟩) ?_ ?_
  rotate_left
  · intro w'
    go_simp
    with_reducible rfl
  rotate_left
  · simp only [Act.put, List.setIfInBounds_toArray, List.set_cons_zero, List.set_cons_succ, i64_w, i32_w]
    rfl
  refine pure_ (i := 18) (N := some 37) (v := ?_) (a' := ?_) #[true, true, true, true, true, true, true, true, true, true, true, true, true, true, true, true, true, true, true, false, false, false, false, false, false, false, false, false, false, false, false, false, false, false, false, false, false, false, false, false, false, false, false, false, false, false, false, false, false, false, false, false, false, false, false, false, false, false, false, false] rfl rfl (any_of HT_.out (by kernel_rfl)) (fun _ _ _ h => h) (Or.inl ⟨by rfl, ?_⟩) ?_ ?_
  rotate_left
  · intro w'
    go_simp
    with_reducible rfl
  rotate_left
  · simp only [Act.put, List.setIfInBounds_toArray, List.set_cons_zero, List.set_cons_succ, i64_w, i32_w]
    rfl
  refine pure_ (i := 19) (N := some 38) (v := ?_) (a' := ?_) #[true, true, true, true, true, true, true, true, true, true, true, true, true, true, true, true, true, true, true, true, false, false, false, false, false, false, false, false, false, false, false, false, false, false, false, false, false, false, false, false, false, false, false, false, false, false, false, false, false, false, false, false, false, false, false, false, false, false, false, false] rfl rfl (any_of HT_.out (by kernel_rfl)) (fun _ _ _ h => h) (Or.inl ⟨by rfl, ?_⟩) ?_ ?_
  rotate_left
  · intro w'
    go_simp
    with_reducible rfl
  rotate_left
  · simp only [Act.put, List.setIfInBounds_toArray, List.set_cons_zero, List.set_cons_succ, i64_w, i32_w]
    rfl
  refine take_ (i := 20) (N := some 39) (v := ?_) (a' := ?_) #[true, true, true, true, true, true, true, true, true, true, true, true, true, true, true, true, true, true, true, true, true, false, false, false, false, false, false, false, false, false, false, false, false, false, false, false, false, false, false, false, false, false, false, false, false, false, false, false, false, false, false, false, false, false, false, false, false, false, false, false] rfl rfl (take_ofW HT_.out HW_.out (by kernel_rfl)) (fun _ _ _ h => h) (Or.inl ⟨by rfl, ?_⟩) hHeld ?_ ?_
  rotate_left
  · rintro w' s0
    have hK := below_cell' s0 K4.out
    go_simp
    with_reducible rfl
  rotate_left
  · simp only [Act.put, List.setIfInBounds_toArray, List.set_cons_zero, List.set_cons_succ, i64_w, i32_w]
    rfl
  refine pure_ (i := 21) (N := some 40) (v := ?_) (a' := ?_) #[true, true, true, true, true, true, true, true, true, true, true, true, true, true, true, true, true, true, true, true, true, true, false, false, false, false, false, false, false, false, false, false, false, false, false, false, false, false, false, false, false, false, false, false, false, false, false, false, false, false, false, false, false, false, false, false, false, false, false, false] rfl rfl (any_of HT_.out (by kernel_rfl)) (fun _ _ _ h => h) (Or.inl ⟨by rfl, ?_⟩) ?_ ?_
  rotate_left
  · intro w'
    go_simp
    with_reducible rfl
  rotate_left
  · simp only [Act.put, List.setIfInBounds_toArray, List.set_cons_zero, List.set_cons_succ, i64_w, i32_w]
    rfl
  refine pure_ (i := 22) (N := some 41) (v := ?_) (a' := ?_) #[true, true, true, true, true, true, true, true, true, true, true, true, true, true, true, true, true, true, true, true, true, true, true, false, false, false, false, false, false, false, false, false, false, false, false, false, false, false, false, false, false, false, false, false, false, false, false, false, false, false, false, false, false, false, false, false, false, false, false, false] rfl rfl (any_of HT_.out (by kernel_rfl)) (fun _ _ _ h => h) (Or.inl ⟨by rfl, ?_⟩) ?_ ?_
  rotate_left
  · intro w'
    go_simp
    with_reducible rfl
  rotate_left
  · simp only [Act.put, List.setIfInBounds_toArray, List.set_cons_zero, List.set_cons_succ, i64_w, i32_w]
    rfl
  refine pure_ (i := 23) (N := some 42) (v := ?_) (a' := ?_) #[true, true, true, true, true, true, true, true, true, true, true, true, true, true, true, true, true, true, true, true, true, true, true, true, false, false, false, false, false, false, false, false, false, false, false, false, false, false, false, false, false, false, false, false, false, false, false, false, false, false, false, false, false, false, false, false, false, false, false, false] rfl rfl (any_of HT_.out (by kernel_rfl)) (fun _ _ _ h => h) (Or.inl ⟨by rfl, ?_⟩) ?_ ?_
  rotate_left
  · intro w'
    go_simp
    with_reducible rfl
  rotate_left
  · simp only [Act.put, List.setIfInBounds_toArray, List.set_cons_zero, List.set_cons_succ, i64_w, i32_w]
    rfl
  refine pure_ (i := 24) (N := some 43) (v := ?_) (a' := ?_) #[true, true, true, true, true, true, true, true, true, true, true, true, true, true, true, true, true, true, true, true, true, true, true, true, true, false, false, false, false, false, false, false, false, false, false, false, false, false, false, false, false, false, false, false, false, false, false, false, false, false, false, false, false, false, false, false, false, false, false, false] rfl rfl (any_of HT_.out (by kernel_rfl)) (fun _ _ _ h => h) (Or.inl ⟨by rfl, ?_⟩) ?_ ?_
  rotate_left
  · intro w'
    go_simp
    with_reducible rfl
  rotate_left
  · simp only [Act.put, List.setIfInBounds_toArray, List.set_cons_zero, List.set_cons_succ, i64_w, i32_w]
    rfl
  refine take_ (i := 25) (N := some 44) (v := ?_) (a' := ?_) #[true, true, true, true, true, true, true, true, true, true, true, true, true, true, true, true, true, true, true, true, true, true, true, true, true, true, false, false, false, false, false, false, false, false, false, false, false, false, false, false, false, false, false, false, false, false, false, false, false, false, false, false, false, false, false, false, false, false, false, false] rfl rfl (take_ofW HT_.out HW_.out (by kernel_rfl)) (fun _ _ _ h => h) (Or.inl ⟨by rfl, ?_⟩) hHeld ?_ ?_
  rotate_left
  · rintro w' s0
    have hK := below_cell' s0 K5.out
    go_simp
    with_reducible rfl
  rotate_left
  · simp only [Act.put, List.setIfInBounds_toArray, List.set_cons_zero, List.set_cons_succ, i64_w, i32_w]
    rfl
  refine pure_ (i := 26) (N := some 45) (v := ?_) (a' := ?_) #[true, true, true, true, true, true, true, true, true, true, true, true, true, true, true, true, true, true, true, true, true, true, true, true, true, true, true, false, false, false, false, false, false, false, false, false, false, false, false, false, false, false, false, false, false, false, false, false, false, false, false, false, false, false, false, false, false, false, false, false] rfl rfl (any_of HT_.out (by kernel_rfl)) (fun _ _ _ h => h) (Or.inl ⟨by rfl, ?_⟩) ?_ ?_
  rotate_left
  · intro w'
    go_simp
    with_reducible rfl
  rotate_left
  · simp only [Act.put, List.setIfInBounds_toArray, List.set_cons_zero, List.set_cons_succ, i64_w, i32_w]
    rfl
  refine pure_ (i := 27) (N := some 46) (v := ?_) (a' := ?_) #[true, true, true, true, true, true, true, true, true, true, true, true, true, true, true, true, true, true, true, true, true, true, true, true, true, true, true, true, false, false, false, false, false, false, false, false, false, false, false, false, false, false, false, false, false, false, false, false, false, false, false, false, false, false, false, false, false, false, false, false] rfl rfl (any_of HT_.out (by kernel_rfl)) (fun _ _ _ h => h) (Or.inl ⟨by rfl, ?_⟩) ?_ ?_
  rotate_left
  · intro w'
    go_simp
    with_reducible rfl
  rotate_left
  · simp only [Act.put, List.setIfInBounds_toArray, List.set_cons_zero, List.set_cons_succ, i64_w, i32_w]
    rfl
  refine pure_ (i := 28) (N := some 47) (v := ?_) (a' := ?_) #[true, true, true, true, true, true, true, true, true, true, true, true, true, true, true, true, true, true, true, true, true, true, true, true, true, true, true, true, true, false, false, false, false, false, false, false, false, false, false, false, false, false, false, false, false, false, false, false, false, false, false, false, false, false, false, false, false, false, false, false] rfl rfl (any_of HT_.out (by kernel_rfl)) (fun _ _ _ h => h) (Or.inl ⟨by rfl, ?_⟩) ?_ ?_
  rotate_left
  · intro w'
    go_simp
    with_reducible rfl
  rotate_left
  · simp only [Act.put, List.setIfInBounds_toArray, List.set_cons_zero, List.set_cons_succ, i64_w, i32_w]
    rfl
  refine pure_ (i := 29) (N := some 48) (v := ?_) (a' := ?_) #[true, true, true, true, true, true, true, true, true, true, true, true, true, true, true, true, true, true, true, true, true, true, true, true, true, true, true, true, true, true, false, false, false, false, false, false, false, false, false, false, false, false, false, false, false, false, false, false, false, false, false, false, false, false, false, false, false, false, false, false] rfl rfl (any_of HT_.out (by kernel_rfl)) (fun _ _ _ h => h) (Or.inl ⟨by rfl, ?_⟩) ?_ ?_
  rotate_left
  · intro w'
    go_simp
    with_reducible rfl
  rotate_left
  · simp only [Act.put, List.setIfInBounds_toArray, List.set_cons_zero, List.set_cons_succ, i64_w, i32_w]
    rfl
  refine pure_ (i := 30) (N := some 49) (v := ?_) (a' := ?_) #[true, true, true, true, true, true, true, true, true, true, true, true, true, true, true, true, true, true, true, true, true, true, true, true, true, true, true, true, true, true, true, false, false, false, false, false, false, false, false, false, false, false, false, false, false, false, false, false, false, false, false, false, false, false, false, false, false, false, false, false] rfl rfl (any_of HT_.out (by kernel_rfl)) (fun _ _ _ h => h) (Or.inl ⟨by rfl, ?_⟩) ?_ ?_
  rotate_left
  · intro w'
    go_simp
    with_reducible rfl
  rotate_left
  · simp only [Act.put, List.setIfInBounds_toArray, List.set_cons_zero, List.set_cons_succ, i64_w, i32_w]
    rfl
  refine pure_ (i := 31) (N := some 50) (v := ?_) (a' := ?_) #[true, true, true, true, true, true, true, true, true, true, true, true, true, true, true, true, true, true, true, true, true, true, true, true, true, true, true, true, true, true, true, true, false, false, false, false, false, false, false, false, false, false, false, false, false, false, false, false, false, false, false, false, false, false, false, false, false, false, false, false] rfl rfl (any_of HT_.out (by kernel_rfl)) (fun _ _ _ h => h) (Or.inl ⟨by rfl, ?_⟩) ?_ ?_
  rotate_left
  · intro w'
    go_simp
    with_reducible rfl
  rotate_left
  · simp only [Act.put, List.setIfInBounds_toArray, List.set_cons_zero, List.set_cons_succ, i64_w, i32_w]
    rfl
  refine pure_ (i := 32) (N := some 51) (v := ?_) (a' := ?_) #[true, true, true, true, true, true, true, true, true, true, true, true, true, true, true, true, true, true, true, true, true, true, true, true, true, true, true, true, true, true, true, true, true, false, false, false, false, false, false, false, false, false, false, false, false, false, false, false, false, false, false, false, false, false, false, false, false, false, false, false] rfl rfl (any_of HT_.out (by kernel_rfl)) (fun _ _ _ h => h) (Or.inl ⟨by rfl, ?_⟩) ?_ ?_
  rotate_left
  · intro w'
    go_simp
    with_reducible rfl
  rotate_left
  · simp only [Act.put, List.setIfInBounds_toArray, List.set_cons_zero, List.set_cons_succ, i64_w, i32_w]
    rfl
  refine pure_ (i := 33) (N := some 52) (v := ?_) (a' := ?_) #[true, true, true, true, true, true, true, true, true, true, true, true, true, true, true, true, true, true, true, true, true, true, true, true, true, true, true, true, true, true, true, true, true, true, false, false, false, false, false, false, false, false, false, false, false, false, false, false, false, false, false, false, false, false, false, false, false, false, false, false] rfl rfl (any_of HT_.out (by kernel_rfl)) (fun _ _ _ h => h) (Or.inl ⟨by rfl, ?_⟩) ?_ ?_
  rotate_left
  · intro w'
    go_simp
    with_reducible rfl
  rotate_left
  · simp only [Act.put, List.setIfInBounds_toArray, List.set_cons_zero, List.set_cons_succ, i64_w, i32_w]
    rfl
  refine pure_ (i := 34) (N := some 53) (v := ?_) (a' := ?_) #[true, true, true, true, true, true, true, true, true, true, true, true, true, true, true, true, true, true, true, true, true, true, true, true, true, true, true, true, true, true, true, true, true, true, true, false, false, false, false, false, false, false, false, false, false, false, false, false, false, false, false, false, false, false, false, false, false, false, false, false] rfl rfl (any_of HT_.out (by kernel_rfl)) (fun _ _ _ h => h) (Or.inl ⟨by rfl, ?_⟩) ?_ ?_
  rotate_left
  · intro w'
    go_simp
    with_reducible rfl
  rotate_left
  · simp only [Act.put, List.setIfInBounds_toArray, List.set_cons_zero, List.set_cons_succ, i64_w, i32_w]
    rfl
  refine pure_ (i := 35) (N := some 54) (v := ?_) (a' := ?_) #[true, true, true, true, true, true, true, true, true, true, true, true, true, true, true, true, true, true, true, true, true, true, true, true, true, true, true, true, true, true, true, true, true, true, true, true, false, false, false, false, false, false, false, false, false, false, false, false, false, false, false, false, false, false, false, false, false, false, false, false] rfl rfl (any_of HT_.out (by kernel_rfl)) (fun _ _ _ h => h) (Or.inl ⟨by rfl, ?_⟩) ?_ ?_
  rotate_left
  · intro w'
    go_simp
    with_reducible rfl
  rotate_left
  · simp only [Act.put, List.setIfInBounds_toArray, List.set_cons_zero, List.set_cons_succ, i64_w, i32_w]
    rfl
  refine pure_ (i := 36) (N := some 55) (v := ?_) (a' := ?_) #[true, true, true, true, true, true, true, true, true, true, true, true, true, true, true, true, true, true, true, true, true, true, true, true, true, true, true, true, true, true, true, true, true, true, true, true, true, false, false, false, false, false, false, false, false, false, false, false, false, false, false, false, false, false, false, false, false, false, false, false] rfl rfl (any_of HT_.out (by kernel_rfl)) (fun _ _ _ h => h) (Or.inl ⟨by rfl, ?_⟩) ?_ ?_
  rotate_left
  · intro w'
    go_simp
    with_reducible rfl
  rotate_left
  · simp only [Act.put, List.setIfInBounds_toArray, List.set_cons_zero, List.set_cons_succ, i64_w, i32_w]
    rfl
  refine pure_ (i := 37) (N := some 56) (v := ?_) (a' := ?_) #[true, true, true, true, true, true, true, true, true, true, true, true, true, true, true, true, true, true, true, true, true, true, true, true, true, true, true, true, true, true, true, true, true, true, true, true, true, true, false, false, false, false, false, false, false, false, false, false, false, false, false, false, false, false, false, false, false, false, false, false] rfl rfl (any_of HT_.out (by kernel_rfl)) (fun _ _ _ h => h) (Or.inl ⟨by rfl, ?_⟩) ?_ ?_
  rotate_left
  · intro w'
    go_simp
    with_reducible rfl
  rotate_left
  · simp only [Act.put, List.setIfInBounds_toArray, List.set_cons_zero, List.set_cons_succ, i64_w, i32_w]
    rfl
  refine pure_ (i := 38) (N := some 57) (v := ?_) (a' := ?_) #[true, true, true, true, true, true, true, true, true, true, true, true, true, true, true, true, true, true, true, true, true, true, true, true, true, true, true, true, true, true, true, true, true, true, true, true, true, true, true, false, false, false, false, false, false, false, false, false, false, false, false, false, false, false, false, false, false, false, false, false] rfl rfl (any_of HT_.out (by kernel_rfl)) (fun _ _ _ h => h) (Or.inl ⟨by rfl, ?_⟩) ?_ ?_
  rotate_left
  · intro w'
    go_simp
    with_reducible rfl
  rotate_left
  · simp only [Act.put, List.setIfInBounds_toArray, List.set_cons_zero, List.set_cons_succ, i64_w, i32_w]
    rfl
  refine pure_ (i := 39) (N := some 58) (v := ?_) (a' := ?_) #[true, true, true, true, true, true, true, true, true, true, true, true, true, true, true, true, true, true, true, true, true, true, true, true, true, true, true, true, true, true, true, true, true, true, true, true, true, true, true, true, false, false, false, false, false, false, false, false, false, false, false, false, false, false, false, false, false, false, false, false] rfl rfl (any_of HT_.out (by kernel_rfl)) (fun _ _ _ h => h) (Or.inl ⟨by rfl, ?_⟩) ?_ ?_
  rotate_left
  · intro w'
    go_simp
    with_reducible rfl
  rotate_left
  · simp only [Act.put, List.setIfInBounds_toArray, List.set_cons_zero, List.set_cons_succ, i64_w, i32_w]
    rfl
  refine pure_ (i := 40) (N := some 59) (v := ?_) (a' := ?_) #[true, true, true, true, true, true, true, true, true, true, true, true, true, true, true, true, true, true, true, true, true, true, true, true, true, true, true, true, true, true, true, true, true, true, true, true, true, true, true, true, true, false, false, false, false, false, false, false, false, false, false, false, false, false, false, false, false, false, false, false] rfl rfl (any_of HT_.out (by kernel_rfl)) (fun _ _ _ h => h) (Or.inl ⟨by rfl, ?_⟩) ?_ ?_
  rotate_left
  · intro w'
    go_simp
    with_reducible rfl
  rotate_left
  · simp only [Act.put, List.setIfInBounds_toArray, List.set_cons_zero, List.set_cons_succ, i64_w, i32_w]
    rfl
  refine pure_ (i := 41) (N := some 60) (v := ?_) (a' := ?_) #[true, true, true, true, true, true, true, true, true, true, true, true, true, true, true, true, true, true, true, true, true, true, true, true, true, true, true, true, true, true, true, true, true, true, true, true, true, true, true, true, true, true, false, false, false, false, false, false, false, false, false, false, false, false, false, false, false, false, false, false] rfl rfl (any_of HT_.out (by kernel_rfl)) (fun _ _ _ h => h) (Or.inl ⟨by rfl, ?_⟩) ?_ ?_
  rotate_left
  · intro w'
    go_simp
    with_reducible rfl
  rotate_left
  · simp only [Act.put, List.setIfInBounds_toArray, List.set_cons_zero, List.set_cons_succ, i64_w, i32_w]
    rfl
  refine pure_ (i := 42) (N := some 61) (v := ?_) (a' := ?_) #[true, true, true, true, true, true, true, true, true, true, true, true, true, true, true, true, true, true, true, true, true, true, true, true, true, true, true, true, true, true, true, true, true, true, true, true, true, true, true, true, true, true, true, false, false, false, false, false, false, false, false, false, false, false, false, false, false, false, false, false] rfl rfl (any_of HT_.out (by kernel_rfl)) (fun _ _ _ h => h) (Or.inl ⟨by rfl, ?_⟩) ?_ ?_
  rotate_left
  · intro w'
    go_simp
    with_reducible rfl
  rotate_left
  · simp only [Act.put, List.setIfInBounds_toArray, List.set_cons_zero, List.set_cons_succ, i64_w, i32_w]
    rfl
  refine pure_ (i := 43) (N := some 62) (v := ?_) (a' := ?_) #[true, true, true, true, true, true, true, true, true, true, true, true, true, true, true, true, true, true, true, true, true, true, true, true, true, true, true, true, true, true, true, true, true, true, true, true, true, true, true, true, true, true, true, true, false, false, false, false, false, false, false, false, false, false, false, false, false, false, false, false] rfl rfl (any_of HT_.out (by kernel_rfl)) (fun _ _ _ h => h) (Or.inl ⟨by rfl, ?_⟩) ?_ ?_
  rotate_left
  · intro w'
    go_simp
    with_reducible rfl
  rotate_left
  · simp only [Act.put, List.setIfInBounds_toArray, List.set_cons_zero, List.set_cons_succ, i64_w, i32_w]
    rfl
  refine take_ (i := 44) (N := some 63) (v := ?_) (a' := ?_) #[true, true, true, true, true, true, true, true, true, true, true, true, true, true, true, true, true, true, true, true, true, true, true, true, true, true, true, true, true, true, true, true, true, true, true, true, true, true, true, true, true, true, true, true, true, false, false, false, false, false, false, false, false, false, false, false, false, false, false, false] rfl rfl (take_ofW HT_.out HW_.out (by kernel_rfl)) (fun _ _ _ h => h) (Or.inl ⟨by rfl, ?_⟩) hHeld ?_ ?_
  rotate_left
  · rintro w' s0
    refine exec_load_hash (.tmp 62) ?_ ad ?_ N0 hN0 (hread_head (hread_below HN.out s0)) <;> rfl
  rotate_left
  · simp only [Act.put, List.setIfInBounds_toArray, List.set_cons_zero, List.set_cons_succ, i64_w, i32_w]
    rfl
  refine one_ (i := 45) (N := some 64) #[true, true, true, true, true, true, true, true, true, true, true, true, true, true, true, true, true, true, true, true, true, true, true, true, true, true, true, true, true, true, true, true, true, true, true, true, true, true, true, true, true, true, true, true, true, true, false, false, false, false, false, false, false, false, false, false, false, false, false, false] rfl rfl (one_of HT_.out (by kernel_rfl)) (by decide) (fun K hK => ?_)
  refine goes_ Try.func12 (by kernel_rfl) rfl #[.string ⟨#[97]⟩] (by rfl) rfl rfl (by (try simp only [List.map_toArray, List.map_cons, List.map_nil]); first | done | rfl) ?_
  with_reducible refine (HA _).mono ?_
  rintro e w_2 ⟨rfl, hb⟩
  refine ⟨_, rfl, ?_⟩
  have hb2 := below_then hHeld hHeld.size hb
  refine hK.out _ _ hb2 (fun hHeld => ?_)
  clear hK K
  refine norm_ (a' := ?_) ?_ ?_
  rotate_left
  · show Act.put _ (some 64) _ = _
    simp only [Act.put, List.setIfInBounds_toArray, List.set_cons_zero, List.set_cons_succ, i64_w, i32_w]
    rfl
  clear hb2 hb
  refine one_ (i := 46) (N := some 65) #[true, true, true, true, true, true, true, true, true, true, true, true, true, true, true, true, true, true, true, true, true, true, true, true, true, true, true, true, true, true, true, true, true, true, true, true, true, true, true, true, true, true, true, true, true, true, true, false, false, false, false, false, false, false, false, false, false, false, false, false] rfl rfl (one_of HT_.out (by kernel_rfl)) (by decide) (fun K hK => ?_)
  refine goes_ Try.func12 (by kernel_rfl) rfl #[.string ⟨#[98]⟩] (by rfl) rfl rfl (by (try simp only [List.map_toArray, List.map_cons, List.map_nil]); first | done | rfl) ?_
  with_reducible refine (HB _).mono ?_
  rintro e w_2 ⟨rfl, hb⟩
  refine ⟨_, rfl, ?_⟩
  have hb2 := below_then hHeld hHeld.size hb
  refine hK.out _ _ hb2 (fun hHeld => ?_)
  clear hK K
  refine norm_ (a' := ?_) ?_ ?_
  rotate_left
  · show Act.put _ (some 65) _ = _
    simp only [Act.put, List.setIfInBounds_toArray, List.set_cons_zero, List.set_cons_succ, i64_w, i32_w]
    rfl
  clear hb2 hb
  refine one_ (i := 47) (N := some 66) #[true, true, true, true, true, true, true, true, true, true, true, true, true, true, true, true, true, true, true, true, true, true, true, true, true, true, true, true, true, true, true, true, true, true, true, true, true, true, true, true, true, true, true, true, true, true, true, true, false, false, false, false, false, false, false, false, false, false, false, false] rfl rfl (one_of HT_.out (by kernel_rfl)) (by decide) (fun K hK => ?_)
  refine goes_ Try.func14 (by kernel_rfl) rfl #[.agg (brw 32 La), .agg (brw 32 Lb)] (by rfl) rfl rfl (by (try simp only [List.map_toArray, List.map_cons, List.map_nil]); first | done | rfl) ?_
  with_reducible refine (HN1 _).mono ?_
  rintro e w_2 ⟨rfl, hb⟩
  refine ⟨_, rfl, ?_⟩
  have hb2 := below_then hHeld hHeld.size hb
  refine hK.out _ _ hb2 (fun hHeld => ?_)
  clear hK K
  refine norm_ (a' := ?_) ?_ ?_
  rotate_left
  · show Act.put _ (some 66) _ = _
    simp only [Act.put, List.setIfInBounds_toArray, List.set_cons_zero, List.set_cons_succ, i64_w, i32_w]
    rfl
  clear hb2 hb
  refine pure_ (i := 48) (N := some 67) (v := ?_) (a' := ?_) #[true, true, true, true, true, true, true, true, true, true, true, true, true, true, true, true, true, true, true, true, true, true, true, true, true, true, true, true, true, true, true, true, true, true, true, true, true, true, true, true, true, true, true, true, true, true, true, true, true, false, false, false, false, false, false, false, false, false, false, false] rfl rfl (any_of HT_.out (by kernel_rfl)) (fun _ _ _ h => h) (Or.inl ⟨by rfl, ?_⟩) ?_ ?_
  rotate_left
  · intro w'
    go_simp
    with_reducible rfl
  rotate_left
  · simp only [Act.put, List.setIfInBounds_toArray, List.set_cons_zero, List.set_cons_succ, i64_w, i32_w]
    rfl
  refine pure_ (i := 49) (N := some 68) (v := ?_) (a' := ?_) #[true, true, true, true, true, true, true, true, true, true, true, true, true, true, true, true, true, true, true, true, true, true, true, true, true, true, true, true, true, true, true, true, true, true, true, true, true, true, true, true, true, true, true, true, true, true, true, true, true, true, false, false, false, false, false, false, false, false, false, false] rfl rfl (any_of HT_.out (by kernel_rfl)) (fun _ _ _ h => h) (Or.inl ⟨by rfl, ?_⟩) ?_ ?_
  rotate_left
  · intro w'
    go_simp
    with_reducible rfl
  rotate_left
  · simp only [Act.put, List.setIfInBounds_toArray, List.set_cons_zero, List.set_cons_succ, i64_w, i32_w]
    rfl
  refine pure_ (i := 50) (N := some 69) (v := ?_) (a' := ?_) #[true, true, true, true, true, true, true, true, true, true, true, true, true, true, true, true, true, true, true, true, true, true, true, true, true, true, true, true, true, true, true, true, true, true, true, true, true, true, true, true, true, true, true, true, true, true, true, true, true, true, true, false, false, false, false, false, false, false, false, false] rfl rfl (any_of HT_.out (by kernel_rfl)) (fun _ _ _ h => h) (Or.inl ⟨by rfl, ?_⟩) ?_ ?_
  rotate_left
  · intro w'
    go_simp
    with_reducible rfl
  rotate_left
  · simp only [Act.put, List.setIfInBounds_toArray, List.set_cons_zero, List.set_cons_succ, i64_w, i32_w]
    rfl
  refine take_ (i := 51) (N := some 70) (v := ?_) (a' := ?_) #[true, true, true, true, true, true, true, true, true, true, true, true, true, true, true, true, true, true, true, true, true, true, true, true, true, true, true, true, true, true, true, true, true, true, true, true, true, true, true, true, true, true, true, true, true, true, true, true, true, true, true, true, false, false, false, false, false, false, false, false] rfl rfl (take_ofW HT_.out HW_.out (by kernel_rfl)) (fun _ _ _ h => h) (Or.inl ⟨by rfl, ?_⟩) hHeld ?_ ?_
  rotate_left
  · rintro w' s0
    refine exec_load_row 23 (.tmp 1) ?_ w1.heap.size ?_ 23 (brw 32 L0) (0, 0) _ (blk_below C1.out s0) Try.underlying23 ?_ (by rw [brw_size 32 L0 (by omega)]; exact i23) <;> rfl
  rotate_left
  · simp only [Act.put, List.setIfInBounds_toArray, List.set_cons_zero, List.set_cons_succ, i64_w, i32_w]
    rfl
  refine one_ (i := 52) (N := some 71) #[true, true, true, true, true, true, true, true, true, true, true, true, true, true, true, true, true, true, true, true, true, true, true, true, true, true, true, true, true, true, true, true, true, true, true, true, true, true, true, true, true, true, true, true, true, true, true, true, true, true, true, true, true, false, false, false, false, false, false, false] rfl rfl (one_of HT_.out (by kernel_rfl)) (by decide) (fun K hK => ?_)
  refine goes_ Try.func19 (by kernel_rfl) rfl #[.agg (brw 32 L0), .int .i64 1, .int .i64 0, .string ⟨#[]⟩, .slice none 0 0] (by rfl) rfl rfl (by (try simp only [List.map_toArray, List.map_cons, List.map_nil]); first | done | rfl) ?_
  with_reducible refine (HY _).mono ?_
  rintro e w_2 ⟨rfl, hb⟩
  refine ⟨_, rfl, ?_⟩
  have hb2 := below_then hHeld hHeld.size hb
  refine hK.out _ _ hb2 (fun hHeld => ?_)
  clear hK K
  refine norm_ (a' := ?_) ?_ ?_
  rotate_left
  · show Act.put _ (some 71) _ = _
    simp only [Act.put, List.setIfInBounds_toArray, List.set_cons_zero, List.set_cons_succ, i64_w, i32_w]
    rfl
  clear hb2 hb
  refine pure_ (i := 53) (N := some 72) (v := ?_) (a' := ?_) #[true, true, true, true, true, true, true, true, true, true, true, true, true, true, true, true, true, true, true, true, true, true, true, true, true, true, true, true, true, true, true, true, true, true, true, true, true, true, true, true, true, true, true, true, true, true, true, true, true, true, true, true, true, true, false, false, false, false, false, false] rfl rfl (any_of HT_.out (by kernel_rfl)) (fun _ _ _ h => h) (Or.inl ⟨by rfl, ?_⟩) ?_ ?_
  rotate_left
  · intro w'
    go_simp
    with_reducible rfl
  rotate_left
  · simp only [Act.put, List.setIfInBounds_toArray, List.set_cons_zero, List.set_cons_succ, i64_w, i32_w]
    rfl
  refine pure_ (i := 54) (N := some 73) (v := ?_) (a' := ?_) #[true, true, true, true, true, true, true, true, true, true, true, true, true, true, true, true, true, true, true, true, true, true, true, true, true, true, true, true, true, true, true, true, true, true, true, true, true, true, true, true, true, true, true, true, true, true, true, true, true, true, true, true, true, true, true, false, false, false, false, false] rfl rfl (any_of HT_.out (by kernel_rfl)) (fun _ _ _ h => h) (Or.inl ⟨by rfl, ?_⟩) ?_ ?_
  rotate_left
  · intro w'
    go_simp
    with_reducible rfl
  rotate_left
  · simp only [Act.put, List.setIfInBounds_toArray, List.set_cons_zero, List.set_cons_succ, i64_w, i32_w]
    rfl
  refine take_ (i := 55) (N := some 74) (v := ?_) (a' := ?_) #[true, true, true, true, true, true, true, true, true, true, true, true, true, true, true, true, true, true, true, true, true, true, true, true, true, true, true, true, true, true, true, true, true, true, true, true, true, true, true, true, true, true, true, true, true, true, true, true, true, true, true, true, true, true, true, true, false, false, false, false] rfl rfl (take_ofW HT_.out HW_.out (by kernel_rfl)) (fun _ _ _ h => h) (Or.inl ⟨by rfl, ?_⟩) hHeld ?_ ?_
  rotate_left
  · rintro w' s0
    refine exec_load_row 23 (.tmp 2) ?_ w3.heap.size ?_ 23 (brw 32 R0) (0, 0) _ (blk_below C2.out s0) Try.underlying23 ?_ (by rw [brw_size 32 R0 (by omega)]; exact i23) <;> rfl
  rotate_left
  · simp only [Act.put, List.setIfInBounds_toArray, List.set_cons_zero, List.set_cons_succ, i64_w, i32_w]
    rfl
  refine one_ (i := 56) (N := some 75) #[true, true, true, true, true, true, true, true, true, true, true, true, true, true, true, true, true, true, true, true, true, true, true, true, true, true, true, true, true, true, true, true, true, true, true, true, true, true, true, true, true, true, true, true, true, true, true, true, true, true, true, true, true, true, true, true, true, false, false, false] rfl rfl (one_of HT_.out (by kernel_rfl)) (by decide) (fun K hK => ?_)
  refine goes_ Try.func19 (by kernel_rfl) rfl #[.agg (brw 32 R0), .int .i64 1, .int .i64 0, .string ⟨#[]⟩, .slice none 0 0] (by rfl) rfl rfl (by (try simp only [List.map_toArray, List.map_cons, List.map_nil]); first | done | rfl) ?_
  with_reducible refine (HZ _).mono ?_
  rintro e w_2 ⟨rfl, hb⟩
  refine ⟨_, rfl, ?_⟩
  have hb2 := below_then hHeld hHeld.size hb
  refine hK.out _ _ hb2 (fun hHeld => ?_)
  clear hK K
  refine norm_ (a' := ?_) ?_ ?_
  rotate_left
  · show Act.put _ (some 75) _ = _
    simp only [Act.put, List.setIfInBounds_toArray, List.set_cons_zero, List.set_cons_succ, i64_w, i32_w]
    rfl
  clear hb2 hb
  refine pure_ (i := 57) (N := some 76) (v := ?_) (a' := ?_) #[true, true, true, true, true, true, true, true, true, true, true, true, true, true, true, true, true, true, true, true, true, true, true, true, true, true, true, true, true, true, true, true, true, true, true, true, true, true, true, true, true, true, true, true, true, true, true, true, true, true, true, true, true, true, true, true, true, true, false, false] rfl rfl (any_of HT_.out (by kernel_rfl)) (fun _ _ _ h => h) (Or.inl ⟨by rfl, ?_⟩) ?_ ?_
  rotate_left
  · intro w'
    go_simp
    with_reducible rfl
  rotate_left
  · simp only [Act.put, List.setIfInBounds_toArray, List.set_cons_zero, List.set_cons_succ, i64_w, i32_w]
    rfl
  refine pure_ (i := 58) (N := some 77) (v := ?_) (a' := ?_) #[true, true, true, true, true, true, true, true, true, true, true, true, true, true, true, true, true, true, true, true, true, true, true, true, true, true, true, true, true, true, true, true, true, true, true, true, true, true, true, true, true, true, true, true, true, true, true, true, true, true, true, true, true, true, true, true, true, true, true, false] rfl rfl (any_of HT_.out (by kernel_rfl)) (fun _ _ _ h => h) (Or.inl ⟨by rfl, ?_⟩) ?_ ?_
  rotate_left
  · intro w'
    go_simp
    with_reducible rfl
  rotate_left
  · simp only [Act.put, List.setIfInBounds_toArray, List.set_cons_zero, List.set_cons_succ, i64_w, i32_w]
    rfl
  refine pure_ (i := 59) (N := some 0) (v := ?_) (a' := ?_) #[true, true, true, true, true, true, true, true, true, true, true, true, true, true, true, true, true, true, true, true, true, true, true, true, true, true, true, true, true, true, true, true, true, true, true, true, true, true, true, true, true, true, true, true, true, true, true, true, true, true, true, true, true, true, true, true, true, true, true, true] rfl rfl (any_of HT_.out (by kernel_rfl)) (fun _ _ _ h => h) (Or.inl ⟨by rfl, ?_⟩) ?_ ?_
  rotate_left
  · intro w'
    go_simp
    with_reducible rfl
  rotate_left
  · simp only [Act.put, List.setIfInBounds_toArray, List.set_cons_zero, List.set_cons_succ, i64_w, i32_w]
    rfl
  refine done_ (done_of HT_.out (by kernel_rfl)) ?_
  go_wp2
  go_ret
  exact ⟨rfl, below_then D0.out D0.out.size hHeld⟩
end Go.Proofs.Ythpnppfpmhlkaaa.Sha
