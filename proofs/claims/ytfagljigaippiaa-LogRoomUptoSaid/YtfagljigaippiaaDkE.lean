/- Chapter 7 (the disk): Flush. -/
import Derived.Test.YtfagljigaippiaaDkD
import Derived.Test.YtfagljigaippiaaWTab
namespace Go.Proofs.Ytfagljigaippiaa.Dk
open Go.RowKit Go.Proofs.Ytfagljigaippiaa.X Go.Proofs.YtfagljigaippiaaW.PrintWords Go.Proofs.YtfagljigaippiaaW.PrintLast Go.Proofs.YtfagljigaippiaaW.PrintMore
set_option linter.unusedVariables false
set_option linter.unusedSimpArgs false

def dfl.T6 : Bool × List (List Nat × List Nat) := (true, [([], []), ([0], [0]), ([1], [1]), ([2], [2]), ([], []), ([4], [4]), ([], []), ([6], [6]), ([3, 5, 0, 1, 2, 3, 4, 5, 6, 7], [3, 5]), ([8, 7, 0, 1, 2, 3, 4, 5, 6, 7], [7, 8])])
def dfl.B6 : List Nat := [0, 1, 3, 7, 0, 16, 0, 64, 255, 511]
theorem dfl.tab6 : rtab .any (opsOf Try.f56 6) = dfl.T6 := by kernel_rfl
theorem dfl.bits6 : waitsOk dfl.T6.2 dfl.B6 = true := by kernel_rfl
theorem info9s : (Try.prog.info? 9).map (·.size) = some 1 := by kernel_rfl
theorem below_cell' {W W' : World} {a : Addr} {v : Value} (hb : Below W.heap.size W W') (h : W.cell? a = some v) : W'.cell? a = some v := by
  rw [World.cell?_of_block (hb.block a.block (World.block_lt_of_cell? W a h))]; exact h
theorem wcs_at : ∀ (ps : List (Int × ByteArray)) (j : Nat) (p : Int × ByteArray), ps[j]? = some p → (wcs ps)[j * 2]? = some (.int .i64 p.1) ∧ (wcs ps)[j * 2 + 1]? = some (.string p.2)
  | [], j, p, h => by simp at h
  | q :: r, 0, p, h => by
    simp only [List.getElem?_cons_zero, Option.some.injEq] at h
    subst h
    exact ⟨rfl, rfl⟩
  | q :: r, j + 1, p, h => by
    rw [List.getElem?_cons_succ] at h
    have ih := wcs_at r j p h
    have e : wcs (q :: r) = wc q ++ wcs r := rfl
    rw [e, List.getElem?_append_right (by rw [wc_len]; omega), List.getElem?_append_right (by rw [wc_len]; omega), wc_len, show (j + 1) * 2 - 2 = j * 2 by omega, show (j + 1) * 2 + 1 - 2 = j * 2 + 1 by omega]
    exact ih
theorem row_pend {base : Nat} {L : Nat → Sl} {N t T : Nat} {ps : List (Int × ByteArray)} {w : World} (h : Many base L N w) (ht : t < N) (hL : L t = wsl T (L t).v ps) (j : Nat) (p : Int × ByteArray) (hj : ps[j]? = some p) : ∃ g cap, (L t).v = .slice (some ⟨g, 0, none⟩) ps.length cap ∧ w.cell? ⟨g, j * 2, none⟩ = some (.int .i64 p.1) ∧ w.cell? ⟨g, j * 2 + 1, none⟩ = some (.string p.2) := by
  have hjl := (List.getElem?_eq_some_iff.1 hj).1
  have hn : (L t).n = ps.length := by rw [hL]; rfl
  have hx : (L t).xs = wcs ps := by rw [hL]; rfl
  have hz : (L t).sz = 2 := by rw [hL]; rfl
  obtain ⟨g, cap, e, _, hb⟩ := many_form h t ht (by omega)
  obtain ⟨h1, _, _⟩ := many_cell h t ht g cap e (j * 2) (by rw [hn, hz]; omega)
  obtain ⟨h2, _, _⟩ := many_cell h t ht g cap e (j * 2 + 1) (by rw [hn, hz]; omega)
  obtain ⟨e1, e2⟩ := wcs_at ps j p hj
  exact ⟨g, cap, by rw [e, hn], by rw [h1, hx, e1], by rw [h2, hx, e2]⟩
theorem row_blk {base : Nat} {L : Nat → Sl} {N t : Nat} {xs : List ByteArray} {w : World} (h : Many base L N w) (ht : t < N) (hL : L t = ssl (L t).v xs) (g c : Nat) (hv : (L t).v = .slice (some ⟨g, 0, none⟩) xs.length c) (j : Nat) (hj : j < xs.length) : ∃ cur, w.heap[g]? = some (.cells cur 9 (0, 0)) ∧ j < cur.size := by
  have ho := h.1 t ht
  unfold Sl.here at ho
  have e1 : (L t).e = 9 := by rw [hL]; rfl
  have e2 : (L t).sz = 1 := by rw [hL]; rfl
  have e3 : (L t).n = xs.length := by rw [hL]; rfl
  rw [hv, e1, e2, e3] at ho
  obtain ⟨h0, ⟨e, _⟩ | ⟨g', cap', cur, e, hg, hh, hc1, hc2, hsz, htk⟩⟩ := ho
  · cases e
  · injection e with a b c
    injection a with a
    injection a with a
    subst a
    exact ⟨cur, hh, by omega⟩
theorem wp_store_cell {T : TypeId} (hT : (Try.prog.info? T).map (·.size) = some 1) {op : Oper} {a : Act} {w : World} {K : Act → World → Prop} {Q : Exit → Act → World → Prop} (x y : Operand) (ho : op.op = .store T x y) (g o : Nat) (cur : Array Value) (e : TypeId) (u : Value) (hx : a.eval x = .pointer (some ⟨g, o, none⟩)) (hy : a.eval y = u) (hh : w.heap[g]? = some (.cells cur e (0, 0))) (hfit : o < cur.size) (hu : u.oneCell' = true)
    (h : K (a.put op.dst undef) (w.setCell ⟨g, o, none⟩ u)) : op.wp Try.prog a w K Q := by
  have hc : u.cells = #[u] := by cases u <;> first | rfl | cases hu
  have h2 := run_store_run (P := Try.prog) T u [u] hh (by rw [hc]) (by rw [hT]; rfl) (by show o + 1 ≤ _; omega) (fun q hq => by rw [List.mem_singleton.1 hq]; exact hu)
  unfold Oper.wp execOp
  simp only [ho, hx, hy, Sem.run_bind, h2, Result.andThen_ok, Sem.run_pure]
  exact h
/-- A row is let go. -/
theorem many_nil {base : Nat} {L : Nat → Sl} {N : Nat} {W : World} (h : Many base L N W) (s : Nat) (hs : s < N) (x : Sl) (hx : x.here base W) (ho : x.v.ownBlock = none) : Many base (upd L s x) N W := by
  refine ⟨fun t ht => ?_, fun t u ht hu htu k hk hk2 => ?_⟩
  · by_cases e : t = s
    · subst e; rw [upd_at]; exact hx
    · rw [upd_ne e]; exact h.1 t ht
  · by_cases e1 : t = s
    · subst e1
      rw [upd_at, ho] at hk
      cases hk
    · rw [upd_ne e1] at hk
      by_cases e2 : u = s
      · subst e2
        rw [upd_at, ho] at hk2
        cases hk2
      · rw [upd_ne e2] at hk2
        exact h.2 t u ht hu htu k hk hk2
/-- Pending writes are done. -/
def done (l : List ByteArray) (ps : List (Int × ByteArray)) : List ByteArray := ps.foldl (fun l p => l.set p.1.toNat p.2) l
theorem done_len : ∀ (ps : List (Int × ByteArray)) (l : List ByteArray), (done l ps).length = l.length
  | [], _ => rfl
  | p :: r, l => by show (done (l.set p.1.toNat p.2) r).length = _; rw [done_len r, List.length_set]
theorem done_snoc (l : List ByteArray) (ps : List (Int × ByteArray)) (p : Int × ByteArray) : done l (ps ++ [p]) = (done l ps).set p.1.toNat p.2 := by unfold done; rw [List.foldl_append]; rfl
theorem take_snoc {α : Type} (ps : List α) (k : Nat) (p : α) (h : ps[k]? = some p) : ps.take (k + 1) = ps.take k ++ [p] := by rw [List.take_add_one, h]; rfl
/-- What Flush does and answers. -/
def flushS (s : DS) : DS × Int := if s.off then (s, 9) else if (fallS s).off then (fallS s, 9) else ({ fallS s with safe := done s.safe s.pend, pend := [] }, 0)
set_option maxHeartbeats 8000000 in
set_option maxRecDepth 100000 in
theorem flush_calls {base : Nat} {L : Nat → Sl} {N i g : Nat} {s : DS} {w : World} (h : Many base L N w) (hd : Disk L i g s) (hi : i + 4 ≤ N) (hf : s.fall ≤ 9223372036854775807) (hbase : base ≤ w.heap.size) (hp : s.pend.length ≤ 549755813888) (hok : ∀ p ∈ s.pend, 0 ≤ p.1 ∧ p.1 < s.safe.length) :
    Calls Try.prog 56 #[.pointer (some ⟨g, 0, none⟩)] w fun e w' => e = .returned (.int .i64 (flushS s).2) ∧ ∃ L', Many base L' N w' ∧ Disk L' i g (flushS s).1 ∧ Else L L' i ∧ Below base w w' := by
  have h4 := (disk_cells h hd hi).2.2.2.2.1
  have HF := fun (W : World) (hW : W = w) => falls_calls (w := W) (hW ▸ h) hd hi hf
  have HM := Aside0.mk h
  have HD := Aside0.mk hd
  have HBS := Aside0.mk hbase
  have HOK := Aside0.mk hok
  clear h hd hbase hok
  obtain ⟨fr1, fr2, fr3⟩ := fall_rows s
  go_enter Try.func56, Try.ntmps56
  cases ho : s.off with
  | true =>
    have E : Aside0 (flushS s = (s, 9)) := ⟨by unfold flushS; rw [ho]; rfl⟩
    rw [ho] at h4
    go_wp2
    go_ret
    exact ⟨by rw [E.out]; rfl, L, HM.out, by rw [E.out]; exact HD.out, fun _ _ => rfl, below_refl_at _ base⟩
  | false =>
    rw [ho] at h4
    cases hfo : (fallS s).off with
    | true =>
      have E : Aside0 (flushS s = (fallS s, 9)) := ⟨by unfold flushS; simp [ho, hfo]⟩
      rw [hfo] at HF
      go_wp2_with (go_at_call 50; (with_reducible refine (HF _ rfl).mono ?_); rintro e w1 ⟨rfl, L1, m1, d1, e1, b1⟩; have R := Aside0.mk (⟨L1, m1, d1, e1, b1⟩ : ∃ L', Many base L' N w1 ∧ Disk L' i g (fallS s) ∧ Else L L' i ∧ Below base _ w1); clear m1 d1 e1 b1)
      go_ret
      exact ⟨by rw [E.out]; rfl, by rw [E.out]; exact R.out⟩
    | false =>
      have E : Aside0 (flushS s = ({ fallS s with safe := done s.safe s.pend, pend := [] }, 0)) := ⟨by unfold flushS; simp [ho, hfo]⟩
      rw [hfo] at HF
      go_upto_region 3 with (go_at_call 50; (with_reducible refine (HF _ rfl).mono ?_); rintro e w1 ⟨rfl, L1, m1, d1, e1, b1⟩; have M1 := Aside0.mk m1; have D1 := Aside0.mk d1; have E1 := Aside0.mk e1; have B1 := Aside0.mk b1; clear m1 d1 e1 b1)
      clear HF h4
      obtain ⟨_, _, ⟨Ap, cp, h2, hvp, hcp⟩, _⟩ := disk_cells M1.out D1.out hi
      rw [fr3] at h2 hvp hcp
      go_wp2
      clear h2
      go_loopw [18] (fun v18 W => ∃ (k : Nat) (L2 : Nat → Sl), k ≤ s.pend.length ∧ v18 = .int .i64 k ∧ Aside0 (Many base L2 N W) ∧ Aside0 (Disk L2 i g { fallS s with safe := done s.safe (s.pend.take k) }) ∧ Aside0 (Else L L2 i) ∧ Aside0 (L2 (i + 3) = L1 (i + 3)) ∧ Aside0 (Below base w W)) (fun v18 _ => s.pend.length - (intOf v18).toNat)
      case atStart => exact ⟨0, L1, Nat.zero_le _, rfl, M1, ⟨by rw [show done s.safe (s.pend.take 0) = (fallS s).safe by rw [fr2]; rfl]; exact D1.out⟩, E1, ⟨rfl⟩, B1⟩
      case round =>
        clear M1 D1 E1 B1
        obtain ⟨k, L2, hk, rfl, M2, D2, E2, P2, B2⟩ := hrel
        by_cases hlt : k < s.pend.length
        · have q1 : ((k : Int) < (s.pend.length : Int)) = True := eq_true (by omega)
          have q2 : (k < s.pend.length) = True := eq_true hlt
          have q3 : (s.pend.length ≤ k) = False := eq_false (by omega)
          obtain ⟨p, hpk⟩ : ∃ p, s.pend[k]? = some p := ⟨_, List.getElem?_eq_getElem hlt⟩
          obtain ⟨hp0, hp1⟩ := HOK.out p (List.mem_of_getElem? hpk)
          obtain ⟨pn, x⟩ := p
          obtain ⟨n, rfl⟩ : ∃ n : Nat, pn = n := ⟨pn.toNat, by omega⟩
          obtain ⟨gp, cp', e2, hc0, hc1⟩ := row_pend M2.out (by omega) D2.out.2.2.2 k _ (by show (fallS s).pend[k]? = _; rw [fr3]; exact hpk)
          have e2' : (L1 (i + 3)).v = .slice (some ⟨gp, 0, none⟩) (fallS s).pend.length cp' := by rw [← P2.out]; exact e2
          obtain ⟨rfl, rfl⟩ : Ap = some ⟨gp, 0, none⟩ ∧ cp = cp' := by rw [hvp] at e2'; injection e2' with a b c; exact ⟨a, c⟩
          obtain ⟨l, hl⟩ : ∃ l, l = done s.safe (s.pend.take k) := ⟨_, rfl⟩
          have hll : l.length = s.safe.length := by rw [hl, done_len]
          have HLE := Aside0.mk hl
          rw [← hl] at D2
          have hns : n < l.length := by rw [hll]; omega
          clear hl
          go_upto_region 6 with (fail)
          clear hc0 hc1
          have hal := below_alloc (Below.refl wr.heap.size wr) (.cells #[Value.int .i64 (n : Int), Value.string x] 96)
          have M5 := Aside0.mk (many_below M2.out hal)
          have B5 := Aside0.mk (below_then B2.out (Nat.le_trans HBS.out B2.out.size) hal)
          have K2 : Aside0 ((wr.alloc (.cells #[Value.int .i64 (n : Int), Value.string x] 96)).cell? ⟨wr.heap.size, 0, none⟩ = some (.int .i64 (n : Int))) := ⟨by rw [blk_cell (blk_new _ _)]; rfl⟩
          have K3 : Aside0 ((wr.alloc (.cells #[Value.int .i64 (n : Int), Value.string x] 96)).cell? ⟨wr.heap.size, 1, none⟩ = some (.string x)) := ⟨by rw [blk_cell (blk_new _ _)]; rfl⟩
          obtain ⟨_, ⟨As, cs0, h1, hv1, _⟩, _⟩ := disk_cells M5.out D2.out hi
          obtain ⟨gs, cs, hvs, _, _, hbs⟩ := row_text M5.out (t := i + 2) (by omega) D2.out.2.2.1 n hns
          have hsafe := D2.out.2.2.1
          have K1 : Aside0 ((wr.alloc (.cells #[Value.int .i64 (n : Int), Value.string x] 96)).cell? ⟨g, 1, none⟩ = some (.slice (some ⟨gs, 0, none⟩) l.length cs)) := ⟨by rw [h1, ← hv1, hvs]⟩
          clear h1 hv1 hal
          obtain ⟨gn, hgn⟩ : ∃ gn, gn = wr.heap.size := ⟨_, rfl⟩
          rw [← hgn] at K2 K3
          have PN : (Value.pointer (some ⟨wr.heap.size, 0, none⟩)) = .pointer (some ⟨gn, 0, none⟩) := by rw [hgn]
          rw [PN]
          generalize wr.alloc (.cells #[Value.int .i64 (n : Int), Value.string x] 96) = w5 at M5 B5 K1 K2 K3 ⊢
          clear hgn PN
          have r2 : (n < l.length) = True := eq_true hns
          have r3 : (l.length ≤ n) = False := eq_false (by omega)
          refine start_ (n := 10) (S := fun W => Below w5.heap.size w5 W) (ds := [9]) #[false, false, false, false, false, false, false, false, false, false] (by kernel_rfl) rfl rfl (below_drew1 (Below.refl _ _)) (fun hHeld => ?_); refine with_tabW dfl.tab6 dfl.bits6 (fun HT_ HW_ => ?_)
          generalize World.drew _ = wR at hHeld ⊢
          refine pure_ (i := 0) (N := some 22) (v := ?_) (a' := ?_) #[true, false, false, false, false, false, false, false, false, false] rfl rfl (any_of HT_.out (by kernel_rfl)) (fun _ _ _ h => h) (Or.inl ⟨by rfl, ?_⟩) ?_ ?_
          rotate_left
          · intro w'
            go_simp
            with_reducible rfl
          rotate_left
          · simp only [Act.put, List.setIfInBounds_toArray, List.set_cons_zero, List.set_cons_succ, i64_w, i32_w]
            rfl
          refine pure_ (i := 1) (N := some 23) (v := ?_) (a' := ?_) #[true, true, false, false, false, false, false, false, false, false] rfl rfl (any_of HT_.out (by kernel_rfl)) (fun _ _ _ h => h) (Or.inl ⟨by rfl, ?_⟩) ?_ ?_
          rotate_left
          · intro w'
            go_simp
            with_reducible rfl
          rotate_left
          · simp only [Act.put, List.setIfInBounds_toArray, List.set_cons_zero, List.set_cons_succ, i64_w, i32_w]
            rfl
          refine pure_ (i := 2) (N := some 24) (v := ?_) (a' := ?_) #[true, true, true, false, false, false, false, false, false, false] rfl rfl (any_of HT_.out (by kernel_rfl)) (fun _ _ _ h => h) (Or.inl ⟨by rfl, ?_⟩) ?_ ?_
          rotate_left
          · intro w'
            go_simp
            with_reducible rfl
          rotate_left
          · simp only [Act.put, List.setIfInBounds_toArray, List.set_cons_zero, List.set_cons_succ, i64_w, i32_w]
            rfl
          refine take_ (i := 3) (N := some 25) (v := ?_) (a' := ?_) #[true, true, true, true, false, false, false, false, false, false] rfl rfl (take_ofW HT_.out HW_.out (by kernel_rfl)) (fun _ _ _ h => h) (Or.inl ⟨by rfl, ?_⟩) hHeld ?_ ?_
          rotate_left
          · rintro w' s0
            have hK := below_cell' s0 K1.out
            go_simp
            with_reducible rfl
          rotate_left
          · simp only [Act.put, List.setIfInBounds_toArray, List.set_cons_zero, List.set_cons_succ, i64_w, i32_w]
            rfl
          refine pure_ (i := 4) (N := some 26) (v := ?_) (a' := ?_) #[true, true, true, true, true, false, false, false, false, false] rfl rfl (any_of HT_.out (by kernel_rfl)) (fun _ _ _ h => h) (Or.inl ⟨by rfl, ?_⟩) ?_ ?_
          rotate_left
          · intro w'
            go_simp
            with_reducible rfl
          rotate_left
          · simp only [Act.put, List.setIfInBounds_toArray, List.set_cons_zero, List.set_cons_succ, i64_w, i32_w]
            rfl
          refine take_ (i := 5) (N := some 27) (v := ?_) (a' := ?_) #[true, true, true, true, true, true, false, false, false, false] rfl rfl (take_ofW HT_.out HW_.out (by kernel_rfl)) (fun _ _ _ h => h) (Or.inl ⟨by rfl, ?_⟩) hHeld ?_ ?_
          rotate_left
          · rintro w' s0
            have hK := below_cell' s0 K2.out
            go_simp
            with_reducible rfl
          rotate_left
          · simp only [Act.put, List.setIfInBounds_toArray, List.set_cons_zero, List.set_cons_succ, i64_w, i32_w]
            rfl
          refine pure_ (i := 6) (N := some 28) (v := ?_) (a' := ?_) #[true, true, true, true, true, true, true, false, false, false] rfl rfl (any_of HT_.out (by kernel_rfl)) (fun _ _ _ h => h) (Or.inl ⟨by rfl, ?_⟩) ?_ ?_
          rotate_left
          · intro w'
            go_simp
            with_reducible rfl
          rotate_left
          · simp only [Act.put, List.setIfInBounds_toArray, List.set_cons_zero, List.set_cons_succ, i64_w, i32_w]
            rfl
          refine take_ (i := 7) (N := some 29) (v := ?_) (a' := ?_) #[true, true, true, true, true, true, true, true, false, false] rfl rfl (take_ofW HT_.out HW_.out (by kernel_rfl)) (fun _ _ _ h => h) (Or.inl ⟨by rfl, ?_⟩) hHeld ?_ ?_
          rotate_left
          · rintro w' s0
            have hK := below_cell' s0 K3.out
            go_simp
            with_reducible rfl
          rotate_left
          · simp only [Act.put, List.setIfInBounds_toArray, List.set_cons_zero, List.set_cons_succ, i64_w, i32_w]
            rfl
          refine pure_ (i := 8) (N := some 30) (v := ?_) (a' := ?_) #[true, true, true, true, true, true, true, true, true, false] rfl rfl (any_of HT_.out (by kernel_rfl)) (fun _ _ _ h => h) (Or.inl ⟨by rfl, ?_⟩) ?_ ?_
          rotate_left
          · intro w'
            go_simp
            with_reducible rfl
          rotate_left
          · simp only [Act.put, List.setIfInBounds_toArray, List.set_cons_zero, List.set_cons_succ, i64_w, i32_w]
            rfl
          have HMR := many_below M5.out hHeld
          obtain ⟨gs', cs', es', hcs', hzs', hbs'⟩ := row_text HMR (t := i + 2) (by omega) hsafe n hns
          obtain ⟨rfl, rfl⟩ : gs = gs' ∧ cs = cs' := by rw [hvs] at es'; injection es' with a b c; injection a with a; injection a with a; exact ⟨a, c⟩
          obtain ⟨cur, hcu, hfit⟩ := row_blk HMR (t := i + 2) (by omega) hsafe gs cs hvs n hns
          refine last_ (i := 9) (N := none) #[true, true, true, true, true, true, true, true, true, true] rfl rfl (one_of HT_.out (by kernel_rfl)) (by decide) (fun K hK => ?_)
          rw [if_pos (by rfl)]
          refine wp_store_cell info9s (.tmp 30) (.tmp 29) rfl gs n cur 9 (.string x) rfl rfl hcu hfit rfl ?_
          refine hK.out _ _ ?_
          clear hK K
          refine norm_ (a' := ?_) ?_ ?_
          rotate_left
          · show Act.put _ (none) _ = _
            simp only [Act.put]
            rfl
          refine done_ (done_of HT_.out (by kernel_rfl)) ?_
          have M6 := Aside0.mk (text_set HMR (i + 2) (by omega) gs cs l hsafe hvs n x)
          obtain ⟨D6a, E6a⟩ := disk_safe D2.out (l.set n x)
          have D6 := Aside0.mk D6a
          have E6 := Aside0.mk (else_trans E2.out E6a)
          have B6 := Aside0.mk ((below_then B5.out (Nat.le_trans HBS.out B5.out.size) hHeld).setCell (p := ⟨gs, n, none⟩) (by exact hbs) (.string x))
          clear HMR D6a E6a hcu hcs' hzs' hbs' hHeld
          go_wp2
          go_roundw
          case rel => exact ⟨k + 1, _, by omega, by go_num, M6, ⟨by rw [take_snoc _ _ _ hpk, done_snoc, ← HLE.out]; exact D6.out⟩, E6, ⟨by rw [upd_ne (by omega)]; exact P2.out⟩, B6⟩
          case measure => simp [intOf]; omega
        · have q1 : ((k : Int) < (s.pend.length : Int)) = False := eq_false (by omega)
          have hkl : k = s.pend.length := by omega
          have HKT := Aside0.mk hkl
          obtain ⟨_, _, ⟨Aq, cq, hq, _, _⟩, _, _, _, hbg, hfz⟩ := disk_cells M2.out D2.out hi
          have hz2 := hfz 2 (by decide)
          have M3 := many_nil M2.out (i + 3) (by omega) (wsl 96 (.slice none 0 0) []) (World.ownsRow_nil _ base 96 2) rfl
          have M4 := Aside0.mk (obj_set M3 i (by omega) g 73 _ (by rw [upd_ne (by omega)]; exact D2.out.1) 2 (.slice none 0 0))
          obtain ⟨D4a, E4a⟩ := disk_pend D2.out (.slice none 0 0) []
          have D4 := Aside0.mk D4a
          have E4 := Aside0.mk (else_trans E2.out E4a)
          have B4 := Aside0.mk (B2.out.setCell (p := ⟨g, 2, none⟩) (by exact hbg) (.slice none 0 0))
          clear hkl M3 D4a E4a
          go_wp2
          go_ret
          exact ⟨by rw [E.out]; rfl, _, M4.out, by rw [E.out]; have := D4.out; rw [HKT.out, List.take_length] at this; exact this, E4.out, B4.out⟩
end Go.Proofs.Ytfagljigaippiaa.Dk
