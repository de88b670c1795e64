/- Chapter 6: the document's Write and Flush. -/
import Derived.Test.YtebhmbdblifddaaDkP
namespace Go.Proofs.Ytebhmbdblifddaa.Dk
open Go.RowKit Go.Maps Go.Proofs.Ytebhmbdblifddaa.X Go.Proofs.YtebhmbdblifddaaW.PrintWords Go.Proofs.YtebhmbdblifddaaW.PrintLast Go.Proofs.YtebhmbdblifddaaW.PrintMore
set_option linter.unusedVariables false
set_option linter.unusedSimpArgs false

def drf.T6 : Bool × List (List Nat × List Nat) := (true, [([], []), ([0], [0]), ([1], [1]), ([2], [2]), ([], []), ([4], [4]), ([5], [5]), ([6], [6]), ([], []), ([7, 8], [7, 8]), ([9], [9]), ([10], [10]), ([], []), ([12], [12]), ([13], [13]), ([14], [14]), ([], []), ([15, 16], [15, 16]), ([17], [17]), ([18], [18]), ([3, 11, 0, 1, 2, 3, 4, 5, 6, 7, 8, 9, 10, 11, 12, 13, 14, 15, 16, 17, 18, 19], [3, 11]), ([20, 19, 0, 1, 2, 3, 4, 5, 6, 7, 8, 9, 10, 11, 12, 13, 14, 15, 16, 17, 18, 19], [19, 20])])
def drf.B6 : List Nat := [0, 1, 3, 7, 0, 16, 48, 112, 0, 496, 1008, 2032, 0, 4096, 12288, 28672, 0, 126976, 258048, 520192, 1048575, 2097151]
theorem drf.tab6 : rtab .any (opsOf Try.f36 6) = drf.T6 := by kernel_rfl
theorem drf.bits6 : waitsOk drf.T6.2 drf.B6 = true := by kernel_rfl
theorem infoV : (Try.prog.info? 89).map (fun i => (i.zero, i.size, i.bytes)) = some (some (.agg #[.int .i64 0, .string ByteArray.empty]), 2, 24) := by kernel_rfl
theorem diskr_pend {L : Nat → Sl} {i g : Nat} {s : DS} (hd : DiskR L i g s) (v' : Value) (ps : List (Int × ByteArray)) : DiskR (upd (upd L (i + 2) (wsl 89 v' ps)) i (osl g 75 ([(L (i + 1)).v, (L (i + 2)).v, .bool s.off, .bool s.opn, .int .i64 s.fall].set 1 v'))) i g { s with pend := ps } ∧ Else3 L (upd (upd L (i + 2) (wsl 89 v' ps)) i (osl g 75 ([(L (i + 1)).v, (L (i + 2)).v, .bool s.off, .bool s.opn, .int .i64 s.fall].set 1 v'))) i := by
  obtain ⟨h0, h1, h2⟩ := hd
  refine ⟨⟨?_, ?_, ?_⟩, fun j hj => by rw [upd_ne (by omega), upd_ne (by omega)]⟩
  · rw [upd_at, upd_ne (by omega), upd_ne (by omega), upd_ne (by omega), upd_at]; rfl
  · rw [upd_ne (by omega), upd_ne (by omega)]; exact h1
  · rw [upd_ne (by omega), upd_at]; rfl
theorem diskr_safe {L : Nat → Sl} {i g : Nat} {s : DS} (hd : DiskR L i g s) (xs : List ByteArray) : DiskR (upd L (i + 1) (ssl (L (i + 1)).v xs)) i g { s with safe := xs } ∧ Else3 L (upd L (i + 1) (ssl (L (i + 1)).v xs)) i := by
  obtain ⟨h0, h1, h2⟩ := hd
  refine ⟨⟨?_, ?_, ?_⟩, fun j hj => upd_ne (by omega)⟩
  · rw [upd_ne (by omega), upd_at, upd_ne (by omega)]; exact h0
  · rw [upd_at]; rfl
  · rw [upd_ne (by omega)]; exact h2
/-- What is seen is of no matter. -/
theorem diskr_seen {L : Nat → Sl} {i g : Nat} {s s' : DS} (hd : DiskR L i g s) (h1 : s'.safe = s.safe) (h2 : s'.pend = s.pend) (h3 : s'.fall = s.fall) (h4 : s'.off = s.off) (h5 : s'.opn = s.opn) : DiskR L i g s' := by
  unfold DiskR
  rw [h1, h2, h3, h4, h5]
  exact hd
set_option maxHeartbeats 8000000 in
set_option maxRecDepth 100000 in
theorem rwrite_calls {base : Nat} {L : Nat → Sl} {N i g : Nat} {s : DS} {w : World} (n : Int) (x : ByteArray) (h : Many base L N w) (hd : DiskR L i g s) (hi : i + 3 ≤ N) (hf : 0 ≤ s.fall ∧ s.fall ≤ 9223372036854775807) (hbase : base ≤ w.heap.size) (hp : s.pend.length ≤ 549755813888) (hsl : s.seen.length = s.safe.length) :
    Calls Try.prog 35 #[.pointer (some ⟨g, 0, none⟩), .int .i64 n, .string x] w fun e w' => e = .returned (.int .i64 (writeS s n x).2) ∧ ∃ L', Many base L' N w' ∧ DiskR L' i g (writeS s n x).1 ∧ Else3 L L' i ∧ Below base w w' := by
  have h4 := (diskr_cells h hd hi).2.2.1
  have HI := fun (W : World) (hW : W = w) => none_calls (w := W) n (hW ▸ h) hd hi
  have HF := fun (ho : s.off = false) (W : World) (hW : W = w) => rfalls_calls (w := W) (hW ▸ h) hd hi hf ho
  have HM := Aside0.mk h
  have HD := Aside0.mk hd
  have HBS := Aside0.mk hbase
  clear h hd hbase
  go_enter Try.func35, Try.ntmps35
  cases ho : s.off with
  | true =>
    have E : Aside0 (writeS s n x = (s, 9)) := ⟨by unfold writeS; rw [ho]; rfl⟩
    rw [ho] at h4
    clear HF
    go_wp2
    go_ret
    exact ⟨by rw [E.out]; rfl, L, HM.out, by rw [E.out]; exact HD.out, fun _ _ => rfl, below_refl_at _ base⟩
  | false =>
    rw [ho] at h4
    replace HF := HF ho
    by_cases hn : ¬ (0 ≤ n ∧ n < s.safe.length)
    · have E : Aside0 (writeS s n x = (s, 1)) := ⟨by unfold writeS; rw [ho]; simp only [Bool.false_eq_true, if_false]; rw [if_pos (fun h => hn (by rw [← hsl]; exact h.1))]⟩
      have q4 : decide (¬ ((0 : Int) ≤ n ∧ n < s.safe.length)) = true := decide_eq_true hn
      rw [q4] at HI
      clear HF
      go_wp2_with (go_at_call 49; (with_reducible refine (HI _ rfl).mono ?_); rintro e w' ⟨rfl, rfl⟩)
      go_ret
      exact ⟨by rw [E.out]; rfl, L, HM.out, by rw [E.out]; exact HD.out, fun _ _ => rfl, below_refl_at _ base⟩
    replace hn := Classical.not_not.1 hn
    have hn2 : 0 ≤ n ∧ n < s.seen.length := by rw [hsl]; exact hn
    have q4 : decide (¬ ((0 : Int) ≤ n ∧ n < s.safe.length)) = false := decide_eq_false (fun hh => hh hn)
    rw [q4] at HI
    by_cases hx : ¬ x.size = 512
    · have E : Aside0 (writeS s n x = (s, 1)) := ⟨by unfold writeS; rw [ho]; simp only [Bool.false_eq_true, if_false]; rw [if_pos (fun h => hx h.2)]⟩
      have q5 : ((x.size : Int) = 512) = False := eq_false (by omega)
      have q6 : ((x.size : Int) == 512) = false := by simp; omega
      clear HF
      go_wp2_with (go_at_call 49; (with_reducible refine (HI _ rfl).mono ?_); rintro e w' ⟨rfl, rfl⟩)
      go_ret
      exact ⟨by rw [E.out]; rfl, L, HM.out, by rw [E.out]; exact HD.out, fun _ _ => rfl, below_refl_at _ base⟩
    replace hx := Classical.not_not.1 hx
    have q5 : ((x.size : Int) = 512) = True := eq_true (by omega)
    have q6 : ((x.size : Int) == 512) = true := by simp; omega
    obtain ⟨fr1, fr2, fr3⟩ := fall_rows s
    cases hfo : (fallS s).off with
    | true =>
      have E : Aside0 (writeS s n x = (fallS s, 9)) := ⟨by unfold writeS; simp [ho, hn2, hx, hfo]⟩
      rw [hfo] at HF
      go_wp2_with (first
        | (go_at_call 49; (with_reducible refine (HI _ rfl).mono ?_); rintro e w' ⟨rfl, hw⟩; obtain rfl := hw.symm)
        | (go_at_call 50; (with_reducible refine (HF _ rfl).mono ?_); rintro e w1 ⟨rfl, L1, m1, d1, e1, b1⟩; have R := Aside0.mk (⟨L1, m1, d1, e1, b1⟩ : ∃ L', Many base L' N w1 ∧ DiskR L' i g (fallS s) ∧ Else3 L L' i ∧ Below base _ w1); clear m1 d1 e1 b1))
      go_ret
      exact ⟨by rw [E.out]; rfl, by rw [E.out]; exact R.out⟩
    | false =>
      have E : Aside0 (writeS s n x = ({ fallS s with seen := s.seen.set n.toNat x, pend := s.pend ++ [(n, x)] }, 0)) := ⟨by unfold writeS; simp [ho, hn2, hx, hfo]⟩
      rw [hfo] at HF
      go_upto_region 7 with (first
        | (go_at_call 49; (with_reducible refine (HI _ rfl).mono ?_); rintro e w' ⟨rfl, hw⟩; obtain rfl := hw.symm)
        | (go_at_call 50; (with_reducible refine (HF _ rfl).mono ?_); rintro e w1 ⟨rfl, L1, m1, d1, e1, b1⟩; have M2a := Aside0.mk m1; have D2a := Aside0.mk d1; have E1 := Aside0.mk e1; have B2 := Aside0.mk b1; clear m1 d1 e1 b1))
      clear HI HF h4
      have S2 := B2.out.size
      have hs2p : (fallS s).pend = s.pend := fr3
      generalize fallS s = s2 at D2a E hs2p
      obtain ⟨_, ⟨A3, c3, h2, hv3, _⟩, _, _, _, hbg, hfz⟩ := diskr_cells M2a.out D2a.out hi
      have hz2 := hfz 1 (by decide)
      rw [hv3.symm] at h2
      obtain ⟨v', w4, hr, M4, B4⟩ := many_grow 73 89 2 24 (.agg #[.int .i64 0, .string ByteArray.empty]) Try.underlying73 infoV rfl (by decide) (by decide) M2a.out (i + 2) (by omega) _ _ _ D2a.out.2.2 [.int .i64 n, .string x] rfl (fun q hq => by
        simp only [List.mem_cons, List.not_mem_nil, or_false] at hq
        rcases hq with rfl | rfl <;> rfl) B2.out (Nat.le_trans HBS.out S2) (by rw [hs2p]; exact hp)
      obtain ⟨A5, c5, e5, _⟩ := many_val M4 (i + 2) (by omega)
      rw [upd_at] at e5
      have e5' : v' = .slice A5 (s2.pend.length + 1) c5 := e5
      subst e5'
      obtain ⟨h4', hz4, _⟩ := obj_cell M4 i (by omega) g 75 _ (by rw [upd_ne (by omega)]; exact D2a.out.1) 1 (by show 1 < 5; decide)
      have M5 := obj_set M4 i (by omega) g 75 _ (by rw [upd_ne (by omega)]; exact D2a.out.1) 1 (.slice A5 (s2.pend.length + 1) c5)
      have ew := wsl_snoc 89 (.slice A5 (s2.pend.length + 1) c5) s2.pend (n, x)
      have ew2 : wcs s2.pend ++ wc (n, x) = wcs s2.pend ++ [.int .i64 n, .string x] := rfl
      rw [ew2] at ew
      rw [ew, hs2p] at M5
      obtain ⟨D5, E5⟩ := diskr_pend D2a.out (.slice A5 (s2.pend.length + 1) c5) (s.pend ++ [(n, x)])
      rw [hs2p] at D5 E5
      have R := Aside0.mk (⟨_, M5, diskr_seen D5 rfl rfl rfl rfl rfl, else3_trans E1.out E5, B4.setCell (p := ⟨g, 1, none⟩) (by exact hbg) _⟩ : ∃ L', Many base L' N (w4.setCell ⟨g, 1, none⟩ (.slice A5 (s.pend.length + 1) c5)) ∧ DiskR L' i g { s2 with seen := s.seen.set n.toNat x, pend := s.pend ++ [(n, x)] } ∧ Else3 L L' i ∧ Below base _ (w4.setCell ⟨g, 1, none⟩ (.slice A5 (s.pend.length + 1) c5)))
      have HR := Aside0.mk hr
      clear M4 M5 D5 E5 ew hr hv3 B4
      go_wp2_with (first
        | ((with_reducible refine gate_dst (N := 30) rfl ?_); go_loud (refine Kd.event_run rfl (exec_append (t := 73) (.tmp 25) (.tmp 29) rfl rfl _ _ rfl rfl HR.out) ?_)))
      go_ret
      exact ⟨by rw [E.out]; rfl, by rw [E.out]; first | exact R.out | (rw [hs2p]; exact R.out)⟩
set_option maxHeartbeats 8000000 in
set_option maxRecDepth 100000 in
theorem rflush_calls {base : Nat} {L : Nat → Sl} {N i g : Nat} {s : DS} {w : World} (h : Many base L N w) (hd : DiskR L i g s) (hi : i + 3 ≤ N) (hf : 0 ≤ s.fall ∧ s.fall ≤ 9223372036854775807) (hbase : base ≤ w.heap.size) (hp : s.pend.length ≤ 549755813888) (hok : ∀ p ∈ s.pend, 0 ≤ p.1 ∧ p.1 < s.safe.length) :
    Calls Try.prog 36 #[.pointer (some ⟨g, 0, none⟩)] w fun e w' => e = .returned (.int .i64 (flushS s).2) ∧ ∃ L', Many base L' N w' ∧ DiskR L' i g (flushS s).1 ∧ Else3 L L' i ∧ Below base w w' := by
  have h4 := (diskr_cells h hd hi).2.2.1
  have HF := fun (ho : s.off = false) (W : World) (hW : W = w) => rfalls_calls (w := W) (hW ▸ h) hd hi hf ho
  have HM := Aside0.mk h
  have HD := Aside0.mk hd
  have HBS := Aside0.mk hbase
  have HOK := Aside0.mk hok
  clear h hd hbase hok
  obtain ⟨fr1, fr2, fr3⟩ := fall_rows s
  go_enter Try.func36, Try.ntmps36
  cases ho : s.off with
  | true =>
    have E : Aside0 (flushS s = (s, 9)) := ⟨by unfold flushS; rw [ho]; rfl⟩
    rw [ho] at h4
    clear HF
    go_wp2
    go_ret
    exact ⟨by rw [E.out]; rfl, L, HM.out, by rw [E.out]; exact HD.out, fun _ _ => rfl, below_refl_at _ base⟩
  | false =>
    rw [ho] at h4
    replace HF := HF ho
    cases hfo : (fallS s).off with
    | true =>
      have E : Aside0 (flushS s = (fallS s, 9)) := ⟨by unfold flushS; simp [ho, hfo]⟩
      rw [hfo] at HF
      go_wp2_with (go_at_call 50; (with_reducible refine (HF _ rfl).mono ?_); rintro e w1 ⟨rfl, L1, m1, d1, e1, b1⟩; have R := Aside0.mk (⟨L1, m1, d1, e1, b1⟩ : ∃ L', Many base L' N w1 ∧ DiskR L' i g (fallS s) ∧ Else3 L L' i ∧ Below base _ w1); clear m1 d1 e1 b1)
      go_ret
      exact ⟨by rw [E.out]; rfl, by rw [E.out]; exact R.out⟩
    | false =>
      have E : Aside0 (flushS s = ({ fallS s with safe := done s.safe s.pend, pend := [] }, 0)) := ⟨by unfold flushS; simp [ho, hfo]⟩
      rw [hfo] at HF
      go_upto_region 3 with (go_at_call 50; (with_reducible refine (HF _ rfl).mono ?_); rintro e w1 ⟨rfl, L1, m1, d1, e1, b1⟩; have M1 := Aside0.mk m1; have D1 := Aside0.mk d1; have E1 := Aside0.mk e1; have B1 := Aside0.mk b1; clear m1 d1 e1 b1)
      clear HF h4
      go_wp2
      go_loopw [3] (fun v3 W => ∃ (k : Nat) (L2 : Nat → Sl), k ≤ s.pend.length ∧ v3 = .int .i64 k ∧ Aside0 (Many base L2 N W) ∧ Aside0 (DiskR L2 i g { fallS s with safe := done s.safe (s.pend.take k) }) ∧ Aside0 (Else3 L L2 i) ∧ Aside0 (Below base w W)) (fun v3 _ => s.pend.length - (intOf v3).toNat)
      case atStart => exact ⟨0, L1, Nat.zero_le _, rfl, M1, ⟨by rw [show done s.safe (s.pend.take 0) = (fallS s).safe by rw [fr2]; rfl]; exact D1.out⟩, E1, B1⟩
      case round =>
        clear M1 D1 E1 B1
        obtain ⟨k, L2, hk, rfl, M2, D2, E2, B2⟩ := hrel
        by_cases hlt : k < s.pend.length
        · have q1 : ((k : Int) < (s.pend.length : Int)) = True := eq_true (by omega)
          have q2 : (k < s.pend.length) = True := eq_true hlt
          have q3 : (s.pend.length ≤ k) = False := eq_false (by omega)
          obtain ⟨p, hpk⟩ : ∃ p, s.pend[k]? = some p := ⟨_, List.getElem?_eq_getElem hlt⟩
          obtain ⟨hp0, hp1⟩ := HOK.out p (List.mem_of_getElem? hpk)
          obtain ⟨pn, x⟩ := p
          obtain ⟨n, rfl⟩ : ∃ n : Nat, pn = n := ⟨pn.toNat, by omega⟩
          obtain ⟨gp, cp', e2, hc0, hc1⟩ := row_pend M2.out (by omega) D2.out.2.2 k _ (by show (fallS s).pend[k]? = _; rw [fr3]; exact hpk)
          obtain ⟨l, hl⟩ : ∃ l, l = done s.safe (s.pend.take k) := ⟨_, rfl⟩
          have hll : l.length = s.safe.length := by rw [hl, done_len]
          have HLE := Aside0.mk hl
          rw [← hl] at D2
          have hns : n < l.length := by rw [hll]; omega
          clear hl
          obtain ⟨⟨As, cs0, k1, hv1, _⟩, ⟨Ap, cp, k2, hvp, _⟩, _⟩ := diskr_cells M2.out D2.out hi
          obtain ⟨gs, cs, hvs, _, _, hbs⟩ := row_text M2.out (t := i + 1) (by omega) D2.out.2.1 n hns
          have hsafe := D2.out.2.1
          replace hv1 : (L2 (i + 1)).v = .slice As l.length cs0 := hv1
          obtain ⟨rfl, rfl⟩ : As = some ⟨gs, 0, none⟩ ∧ cs0 = cs := by rw [hv1] at hvs; injection hvs with a b c; exact ⟨a, c⟩
          obtain ⟨rfl, rfl⟩ : Ap = some ⟨gp, 0, none⟩ ∧ cp = cp' := by rw [hvp] at e2; injection e2 with a b c; exact ⟨a, c⟩
          replace k1 : _ = some (Value.slice (some ⟨gs, 0, none⟩) l.length cs0) := k1
          replace k2 : _ = some (Value.slice (some ⟨gp, 0, none⟩) (fallS s).pend.length cp) := k2
          rw [fr3] at k2
          have K1 := Aside0.mk k1
          have K2 := Aside0.mk k2
          have K3 := Aside0.mk hc0
          have K4 := Aside0.mk hc1
          have r2 : (n < l.length) = True := eq_true hns
          have r3 : (l.length ≤ n) = False := eq_false (by omega)
          have r4 : ((n : Int) < (l.length : Int)) = True := eq_true (by omega)
          clear k1 hc0 hc1 hv1 hvp e2
          go_upto_region 6 with (fail)
          refine start_ (n := 22) (S := fun W => Below wr.heap.size wr W) (ds := [21]) #[false, false, false, false, false, false, false, false, false, false, false, false, false, false, false, false, false, false, false, false, false, false] (by kernel_rfl) rfl rfl (below_drew1 (Below.refl _ _)) (fun hHeld => ?_); refine with_tabW drf.tab6 drf.bits6 (fun HT_ HW_ => ?_)
          generalize World.drew _ = wR at hHeld ⊢
          refine pure_ (i := 0) (N := some 21) (v := ?_) (a' := ?_) #[true, false, false, false, false, false, false, false, false, false, false, false, false, false, false, false, false, false, false, false, false, false] rfl rfl (any_of HT_.out (by kernel_rfl)) (fun _ _ _ h => h) (Or.inl ⟨by rfl, ?_⟩) ?_ ?_
          rotate_left
          · intro w'
            go_simp
            with_reducible rfl
          rotate_left
          · simp only [Act.put, List.setIfInBounds_toArray, List.set_cons_zero, List.set_cons_succ, i64_w, i32_w]
            rfl
          refine pure_ (i := 1) (N := some 22) (v := ?_) (a' := ?_) #[true, true, false, false, false, false, false, false, false, false, false, false, false, false, false, false, false, false, false, false, false, false] rfl rfl (any_of HT_.out (by kernel_rfl)) (fun _ _ _ h => h) (Or.inl ⟨by rfl, ?_⟩) ?_ ?_
          rotate_left
          · intro w'
            go_simp
            with_reducible rfl
          rotate_left
          · simp only [Act.put, List.setIfInBounds_toArray, List.set_cons_zero, List.set_cons_succ, i64_w, i32_w]
            rfl
          refine pure_ (i := 2) (N := some 23) (v := ?_) (a' := ?_) #[true, true, true, false, false, false, false, false, false, false, false, false, false, false, false, false, false, false, false, false, false, false] rfl rfl (any_of HT_.out (by kernel_rfl)) (fun _ _ _ h => h) (Or.inl ⟨by rfl, ?_⟩) ?_ ?_
          rotate_left
          · intro w'
            go_simp
            with_reducible rfl
          rotate_left
          · simp only [Act.put, List.setIfInBounds_toArray, List.set_cons_zero, List.set_cons_succ, i64_w, i32_w]
            rfl
          refine take_ (i := 3) (N := some 24) (v := ?_) (a' := ?_) #[true, true, true, true, false, false, false, false, false, false, false, false, false, false, false, false, false, false, false, false, false, false] rfl rfl (take_ofW HT_.out HW_.out (by kernel_rfl)) (fun _ _ _ h => h) (Or.inl ⟨by rfl, ?_⟩) hHeld ?_ ?_
          rotate_left
          · rintro w' s0
            have hK := below_cell' s0 K1.out
            go_simp
            with_reducible rfl
          rotate_left
          · simp only [Act.put, List.setIfInBounds_toArray, List.set_cons_zero, List.set_cons_succ, i64_w, i32_w]
            rfl
          refine pure_ (i := 4) (N := some 25) (v := ?_) (a' := ?_) #[true, true, true, true, true, false, false, false, false, false, false, false, false, false, false, false, false, false, false, false, false, false] rfl rfl (any_of HT_.out (by kernel_rfl)) (fun _ _ _ h => h) (Or.inl ⟨by rfl, ?_⟩) ?_ ?_
          rotate_left
          · intro w'
            go_simp
            with_reducible rfl
          rotate_left
          · simp only [Act.put, List.setIfInBounds_toArray, List.set_cons_zero, List.set_cons_succ, i64_w, i32_w]
            rfl
          refine pure_ (i := 5) (N := some 26) (v := ?_) (a' := ?_) #[true, true, true, true, true, true, false, false, false, false, false, false, false, false, false, false, false, false, false, false, false, false] rfl rfl (any_of HT_.out (by kernel_rfl)) (fun _ _ _ h => h) (Or.inl ⟨by rfl, ?_⟩) ?_ ?_
          rotate_left
          · intro w'
            go_simp
            with_reducible rfl
          rotate_left
          · simp only [Act.put, List.setIfInBounds_toArray, List.set_cons_zero, List.set_cons_succ, i64_w, i32_w]
            rfl
          refine pure_ (i := 6) (N := some 27) (v := ?_) (a' := ?_) #[true, true, true, true, true, true, true, false, false, false, false, false, false, false, false, false, false, false, false, false, false, false] rfl rfl (any_of HT_.out (by kernel_rfl)) (fun _ _ _ h => h) (Or.inl ⟨by rfl, ?_⟩) ?_ ?_
          rotate_left
          · intro w'
            go_simp
            with_reducible rfl
          rotate_left
          · simp only [Act.put, List.setIfInBounds_toArray, List.set_cons_zero, List.set_cons_succ, i64_w, i32_w]
            rfl
          refine take_ (i := 7) (N := some 28) (v := ?_) (a' := ?_) #[true, true, true, true, true, true, true, true, false, false, false, false, false, false, false, false, false, false, false, false, false, false] rfl rfl (take_ofW HT_.out HW_.out (by kernel_rfl)) (fun _ _ _ h => h) (Or.inl ⟨by rfl, ?_⟩) hHeld ?_ ?_
          rotate_left
          · rintro w' s0
            have hK := below_cell' s0 K2.out
            go_simp
            with_reducible rfl
          rotate_left
          · simp only [Act.put, List.setIfInBounds_toArray, List.set_cons_zero, List.set_cons_succ, i64_w, i32_w]
            rfl
          refine pure_ (i := 8) (N := some 29) (v := ?_) (a' := ?_) #[true, true, true, true, true, true, true, true, true, false, false, false, false, false, false, false, false, false, false, false, false, false] rfl rfl (any_of HT_.out (by kernel_rfl)) (fun _ _ _ h => h) (Or.inl ⟨by rfl, ?_⟩) ?_ ?_
          rotate_left
          · intro w'
            go_simp
            with_reducible rfl
          rotate_left
          · simp only [Act.put, List.setIfInBounds_toArray, List.set_cons_zero, List.set_cons_succ, i64_w, i32_w]
            rfl
          refine pure_ (i := 9) (N := some 30) (v := ?_) (a' := ?_) #[true, true, true, true, true, true, true, true, true, true, false, false, false, false, false, false, false, false, false, false, false, false] rfl rfl (any_of HT_.out (by kernel_rfl)) (fun _ _ _ h => h) (Or.inl ⟨by rfl, ?_⟩) ?_ ?_
          rotate_left
          · intro w'
            go_simp
            with_reducible rfl
          rotate_left
          · simp only [Act.put, List.setIfInBounds_toArray, List.set_cons_zero, List.set_cons_succ, i64_w, i32_w]
            rfl
          refine pure_ (i := 10) (N := some 31) (v := ?_) (a' := ?_) #[true, true, true, true, true, true, true, true, true, true, true, false, false, false, false, false, false, false, false, false, false, false] rfl rfl (any_of HT_.out (by kernel_rfl)) (fun _ _ _ h => h) (Or.inl ⟨by rfl, ?_⟩) ?_ ?_
          rotate_left
          · intro w'
            go_simp
            with_reducible rfl
          rotate_left
          · simp only [Act.put, List.setIfInBounds_toArray, List.set_cons_zero, List.set_cons_succ, i64_w, i32_w]
            rfl
          refine take_ (i := 11) (N := some 32) (v := ?_) (a' := ?_) #[true, true, true, true, true, true, true, true, true, true, true, true, false, false, false, false, false, false, false, false, false, false] rfl rfl (take_ofW HT_.out HW_.out (by kernel_rfl)) (fun _ _ _ h => h) (Or.inl ⟨by rfl, ?_⟩) hHeld ?_ ?_
          rotate_left
          · rintro w' s0
            have hK := below_cell' s0 K3.out
            go_simp
            with_reducible rfl
          rotate_left
          · simp only [Act.put, List.setIfInBounds_toArray, List.set_cons_zero, List.set_cons_succ, i64_w, i32_w]
            rfl
          refine pure_ (i := 12) (N := some 33) (v := ?_) (a' := ?_) #[true, true, true, true, true, true, true, true, true, true, true, true, true, false, false, false, false, false, false, false, false, false] rfl rfl (any_of HT_.out (by kernel_rfl)) (fun _ _ _ h => h) (Or.inl ⟨by rfl, ?_⟩) ?_ ?_
          rotate_left
          · intro w'
            go_simp
            with_reducible rfl
          rotate_left
          · simp only [Act.put, List.setIfInBounds_toArray, List.set_cons_zero, List.set_cons_succ, i64_w, i32_w]
            rfl
          refine pure_ (i := 13) (N := some 34) (v := ?_) (a' := ?_) #[true, true, true, true, true, true, true, true, true, true, true, true, true, true, false, false, false, false, false, false, false, false] rfl rfl (any_of HT_.out (by kernel_rfl)) (fun _ _ _ h => h) (Or.inl ⟨by rfl, ?_⟩) ?_ ?_
          rotate_left
          · intro w'
            go_simp
            with_reducible rfl
          rotate_left
          · simp only [Act.put, List.setIfInBounds_toArray, List.set_cons_zero, List.set_cons_succ, i64_w, i32_w]
            rfl
          refine pure_ (i := 14) (N := some 35) (v := ?_) (a' := ?_) #[true, true, true, true, true, true, true, true, true, true, true, true, true, true, true, false, false, false, false, false, false, false] rfl rfl (any_of HT_.out (by kernel_rfl)) (fun _ _ _ h => h) (Or.inl ⟨by rfl, ?_⟩) ?_ ?_
          rotate_left
          · intro w'
            go_simp
            with_reducible rfl
          rotate_left
          · simp only [Act.put, List.setIfInBounds_toArray, List.set_cons_zero, List.set_cons_succ, i64_w, i32_w]
            rfl
          refine take_ (i := 15) (N := some 36) (v := ?_) (a' := ?_) #[true, true, true, true, true, true, true, true, true, true, true, true, true, true, true, true, false, false, false, false, false, false] rfl rfl (take_ofW HT_.out HW_.out (by kernel_rfl)) (fun _ _ _ h => h) (Or.inl ⟨by rfl, ?_⟩) hHeld ?_ ?_
          rotate_left
          · rintro w' s0
            have hK := below_cell' s0 K2.out
            go_simp
            with_reducible rfl
          rotate_left
          · simp only [Act.put, List.setIfInBounds_toArray, List.set_cons_zero, List.set_cons_succ, i64_w, i32_w]
            rfl
          refine pure_ (i := 16) (N := some 37) (v := ?_) (a' := ?_) #[true, true, true, true, true, true, true, true, true, true, true, true, true, true, true, true, true, false, false, false, false, false] rfl rfl (any_of HT_.out (by kernel_rfl)) (fun _ _ _ h => h) (Or.inl ⟨by rfl, ?_⟩) ?_ ?_
          rotate_left
          · intro w'
            go_simp
            with_reducible rfl
          rotate_left
          · simp only [Act.put, List.setIfInBounds_toArray, List.set_cons_zero, List.set_cons_succ, i64_w, i32_w]
            rfl
          refine pure_ (i := 17) (N := some 38) (v := ?_) (a' := ?_) #[true, true, true, true, true, true, true, true, true, true, true, true, true, true, true, true, true, true, false, false, false, false] rfl rfl (any_of HT_.out (by kernel_rfl)) (fun _ _ _ h => h) (Or.inl ⟨by rfl, ?_⟩) ?_ ?_
          rotate_left
          · intro w'
            go_simp
            with_reducible rfl
          rotate_left
          · simp only [Act.put, List.setIfInBounds_toArray, List.set_cons_zero, List.set_cons_succ, i64_w, i32_w]
            rfl
          refine pure_ (i := 18) (N := some 39) (v := ?_) (a' := ?_) #[true, true, true, true, true, true, true, true, true, true, true, true, true, true, true, true, true, true, true, false, false, false] rfl rfl (any_of HT_.out (by kernel_rfl)) (fun _ _ _ h => h) (Or.inl ⟨by rfl, ?_⟩) ?_ ?_
          rotate_left
          · intro w'
            go_simp
            with_reducible rfl
          rotate_left
          · simp only [Act.put, List.setIfInBounds_toArray, List.set_cons_zero, List.set_cons_succ, i64_w, i32_w]
            rfl
          refine take_ (i := 19) (N := some 40) (v := ?_) (a' := ?_) #[true, true, true, true, true, true, true, true, true, true, true, true, true, true, true, true, true, true, true, true, false, false] rfl rfl (take_ofW HT_.out HW_.out (by kernel_rfl)) (fun _ _ _ h => h) (Or.inl ⟨by rfl, ?_⟩) hHeld ?_ ?_
          rotate_left
          · rintro w' s0
            have hK := below_cell' s0 K4.out
            go_simp
            with_reducible rfl
          rotate_left
          · simp only [Act.put, List.setIfInBounds_toArray, List.set_cons_zero, List.set_cons_succ, i64_w, i32_w]
            rfl
          refine pure_ (i := 20) (N := some 41) (v := ?_) (a' := ?_) #[true, true, true, true, true, true, true, true, true, true, true, true, true, true, true, true, true, true, true, true, true, false] rfl rfl (any_of HT_.out (by kernel_rfl)) (fun _ _ _ h => h) (Or.inl ⟨by rfl, ?_⟩) ?_ ?_
          rotate_left
          · intro w'
            go_simp
            with_reducible rfl
          rotate_left
          · simp only [Act.put, List.setIfInBounds_toArray, List.set_cons_zero, List.set_cons_succ, i64_w, i32_w]
            rfl
          have HMR := many_below M2.out hHeld
          obtain ⟨cur, hcu, hfit⟩ := row_blk HMR (t := i + 1) (by omega) hsafe gs _ hvs n hns
          refine last_ (i := 21) (N := none) #[true, true, true, true, true, true, true, true, true, true, true, true, true, true, true, true, true, true, true, true, true, true] rfl rfl (one_of HT_.out (by kernel_rfl)) (by decide) (fun K hK => ?_)
          refine wp_store_cell info9s (.tmp 41) (.tmp 40) rfl gs n cur 9 (.string x) rfl rfl hcu hfit rfl ?_
          refine hK.out _ _ ?_
          clear hK K
          refine norm_ (a' := ?_) ?_ ?_
          rotate_left
          · show Act.put _ (none) _ = _
            simp only [Act.put]
            rfl
          refine done_ (done_of HT_.out (by kernel_rfl)) ?_
          have M6 := Aside0.mk (text_set HMR (i + 1) (by omega) gs _ l hsafe hvs n x)
          obtain ⟨D6a, E6a⟩ := diskr_safe D2.out (l.set n x)
          have D6 := Aside0.mk D6a
          have E6 := Aside0.mk (else3_trans E2.out E6a)
          have B6 := Aside0.mk ((below_then B2.out (Nat.le_trans HBS.out B2.out.size) hHeld).setCell (p := ⟨gs, n, none⟩) (by exact hbs) (.string x))
          clear HMR D6a E6a hcu hHeld K1 K2 K3 K4 k2
          go_wp2
          exact ⟨⟨k + 1, _, by omega, by go_num, M6, ⟨by rw [take_snoc _ _ _ hpk, done_snoc, ← HLE.out]; exact D6.out⟩, E6, B6⟩, by simp [intOf]; omega⟩
        · have q1 : ((k : Int) < (s.pend.length : Int)) = False := eq_false (by omega)
          have hkl : k = s.pend.length := by omega
          have HKT := Aside0.mk hkl
          obtain ⟨_, ⟨Aq, cq, hq, _, _⟩, _, _, _, hbg, hfz⟩ := diskr_cells M2.out D2.out hi
          replace hq : _ = some (Value.slice Aq (fallS s).pend.length cq) := hq
          rw [fr3] at hq
          have hz2 := hfz 1 (by decide)
          have M3 := many_nil M2.out (i + 2) (by omega) (wsl 89 (.slice none 0 0) []) (World.ownsRow_nil _ base 89 2) rfl
          have M4 := Aside0.mk (obj_set M3 i (by omega) g 75 _ (by rw [upd_ne (by omega)]; exact D2.out.1) 1 (.slice none 0 0))
          obtain ⟨D4a, E4a⟩ := diskr_pend D2.out (.slice none 0 0) []
          have D4 := Aside0.mk D4a
          have E4 := Aside0.mk (else3_trans E2.out E4a)
          have B4 := Aside0.mk (B2.out.setCell (p := ⟨g, 1, none⟩) (by exact hbg) (.slice none 0 0))
          clear hkl M3 D4a E4a
          go_wp2
          go_ret
          exact ⟨by rw [E.out]; rfl, _, M4.out, by rw [E.out]; have := D4.out; rw [HKT.out, List.take_length] at this; exact this, E4.out, B4.out⟩
end Go.Proofs.Ytebhmbdblifddaa.Dk
