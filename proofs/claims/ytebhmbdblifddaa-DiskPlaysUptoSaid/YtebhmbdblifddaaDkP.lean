/- Chapter 6: the document's disk: its rows; the methods that change no row; Read. -/
import Derived.Test.YtebhmbdblifddaaDkN
namespace Go.Proofs.Ytebhmbdblifddaa.Dk
open Go.RowKit Go.Maps Go.Proofs.Ytebhmbdblifddaa.X Go.Proofs.YtebhmbdblifddaaW.PrintWords Go.Proofs.YtebhmbdblifddaaW.PrintLast Go.Proofs.YtebhmbdblifddaaW.PrintMore
set_option linter.unusedVariables false
set_option linter.unusedSimpArgs false

/-- The document's disk at block g is rows i to i + 2. -/
def DiskR (L : Nat → Sl) (i g : Nat) (s : DS) : Prop :=
  L i = osl g 75 [(L (i + 1)).v, (L (i + 2)).v, .bool s.off, .bool s.opn, .int .i64 s.fall] ∧ L (i + 1) = ssl (L (i + 1)).v s.safe ∧ L (i + 2) = wsl 89 (L (i + 2)).v s.pend
theorem diskr_cells {base : Nat} {L : Nat → Sl} {N : Nat} {W : World} (h : Many base L N W) {i g : Nat} {s : DS} (hd : DiskR L i g s) (hi : i + 3 ≤ N) :
    (∃ A c, W.cell? ⟨g, 0, none⟩ = some (.slice A s.safe.length c) ∧ (L (i + 1)).v = .slice A s.safe.length c ∧ s.safe.length ≤ c) ∧
    (∃ A c, W.cell? ⟨g, 1, none⟩ = some (.slice A s.pend.length c) ∧ (L (i + 2)).v = .slice A s.pend.length c ∧ s.pend.length ≤ c) ∧ W.cell? ⟨g, 2, none⟩ = some (.bool s.off) ∧ W.cell? ⟨g, 3, none⟩ = some (.bool s.opn) ∧ W.cell? ⟨g, 4, none⟩ = some (.int .i64 s.fall) ∧ base ≤ g ∧ ∀ j, j < 5 → W.frozen? ⟨g, j, none⟩ = false := by
  obtain ⟨h0, h1, h2⟩ := hd
  have hc : ∀ j, j < 5 → W.cell? ⟨g, j, none⟩ = [(L (i + 1)).v, (L (i + 2)).v, .bool s.off, .bool s.opn, .int .i64 s.fall][j]? ∧ W.frozen? ⟨g, j, none⟩ = false ∧ base ≤ g := fun j hj => by
    have := many_cell h i (by omega) g 5 (by rw [h0]; rfl) j (by rw [h0]; show j < 5 * 1; omega)
    rw [h0] at this
    exact this
  obtain ⟨A1, c1, e1, k1⟩ := many_val h (i + 1) (by omega)
  obtain ⟨A2, c2, e2, k2⟩ := many_val h (i + 2) (by omega)
  have n1 : (L (i + 1)).n = s.safe.length := by rw [h1]; rfl
  have n2 : (L (i + 2)).n = s.pend.length := by rw [h2]; rfl
  rw [n1] at e1 k1
  rw [n2] at e2 k2
  refine ⟨⟨A1, c1, ?_, e1, k1⟩, ⟨A2, c2, ?_, e2, k2⟩, (hc 2 (by decide)).1, (hc 3 (by decide)).1, (hc 4 (by decide)).1, (hc 0 (by decide)).2.2, fun j hj => (hc j hj).2.1⟩
  · rw [(hc 0 (by decide)).1, e1]; rfl
  · rw [(hc 1 (by decide)).1, e2]; rfl
/-- Outside rows i to i + 2 nothing turns. -/
def Else3 (L L' : Nat → Sl) (i : Nat) : Prop := ∀ j, j < i ∨ i + 3 ≤ j → L' j = L j
theorem else3_trans {L L' L'' : Nat → Sl} {i : Nat} (h : Else3 L L' i) (k : Else3 L' L'' i) : Else3 L L'' i := fun j hj => (k j hj).trans (h j hj)
theorem diskr_set {base : Nat} {L : Nat → Sl} {N : Nat} {W : World} (h : Many base L N W) {i g : Nat} {s : DS} (hd : DiskR L i g s) (hi : i + 3 ≤ N) (j : Nat) (u : Value) (s' : DS) (hs : s'.safe = s.safe ∧ s'.pend = s.pend)
    (hc : ∀ a b : Value, [a, b, .bool s.off, .bool s.opn, .int .i64 s.fall].set j u = [a, b, .bool s'.off, .bool s'.opn, .int .i64 s'.fall]) :
    ∃ L', Many base L' N (W.setCell ⟨g, j, none⟩ u) ∧ DiskR L' i g s' ∧ Else3 L L' i := by
  obtain ⟨h0, h1, h2⟩ := hd
  have hm := obj_set h i (by omega) g 75 _ h0 j u
  rw [hc] at hm
  refine ⟨_, hm, ⟨?_, ?_, ?_⟩, fun j hj => upd_ne (by omega)⟩
  · rw [upd_at, upd_ne (by omega), upd_ne (by omega)]
  · rw [upd_ne (by omega), hs.1]; exact h1
  · rw [upd_ne (by omega), hs.2]; exact h2
set_option maxHeartbeats 8000000 in
set_option maxRecDepth 100000 in
theorem roff_calls {base : Nat} {L : Nat → Sl} {N i g : Nat} {s : DS} {w : World} (h : Many base L N w) (hd : DiskR L i g s) (hi : i + 3 ≤ N) :
    Calls Try.prog 40 #[.pointer (some ⟨g, 0, none⟩)] w fun e w' => e = .returned (.bool s.off) ∧ w' = w := by
  obtain ⟨_, _, h2, _, _, _, _⟩ := diskr_cells h hd hi
  clear h hd
  go_enter Try.func40, Try.ntmps40
  go_wp2
  go_ret
  exact ⟨rfl, rfl⟩
set_option maxHeartbeats 8000000 in
set_option maxRecDepth 100000 in
theorem rpending_calls {base : Nat} {L : Nat → Sl} {N i g : Nat} {s : DS} {w : World} (h : Many base L N w) (hd : DiskR L i g s) (hi : i + 3 ≤ N) :
    Calls Try.prog 41 #[.pointer (some ⟨g, 0, none⟩)] w fun e w' => e = .returned (.int .i64 s.pend.length) ∧ w' = w := by
  obtain ⟨_, ⟨A, c, h1, _, _⟩, _⟩ := diskr_cells h hd hi
  clear h hd
  go_enter Try.func41, Try.ntmps41
  go_wp2
  go_ret
  exact ⟨rfl, rfl⟩
set_option maxHeartbeats 8000000 in
set_option maxRecDepth 100000 in
theorem rsectors_calls {base : Nat} {L : Nat → Sl} {N i g : Nat} {s : DS} {w : World} (h : Many base L N w) (hd : DiskR L i g s) (hi : i + 3 ≤ N) :
    Calls Try.prog 42 #[.pointer (some ⟨g, 0, none⟩)] w fun e w' => e = .returned (.int .i64 s.safe.length) ∧ w' = w := by
  obtain ⟨⟨A, c, h1, _, _⟩, _⟩ := diskr_cells h hd hi
  clear h hd
  go_enter Try.func42, Try.ntmps42
  go_wp2
  go_ret
  exact ⟨rfl, rfl⟩
set_option maxHeartbeats 8000000 in
set_option maxRecDepth 100000 in
theorem none_calls {base : Nat} {L : Nat → Sl} {N i g : Nat} {s : DS} {w : World} (n : Int) (h : Many base L N w) (hd : DiskR L i g s) (hi : i + 3 ≤ N) :
    Calls Try.prog 49 #[.pointer (some ⟨g, 0, none⟩), .int .i64 n] w fun e w' => e = .returned (.bool (decide (¬ (0 ≤ n ∧ n < s.safe.length)))) ∧ w' = w := by
  obtain ⟨⟨A, c, h1, _, _⟩, _⟩ := diskr_cells h hd hi
  clear h hd
  go_enter Try.func49, Try.ntmps49
  by_cases h0 : n < 0
  · have q1 : (n < 0) = True := eq_true h0
    go_wp2
    go_ret
    exact ⟨by first | rfl | (rw [decide_eq_true (by omega)]; rfl), rfl⟩
  · by_cases h2 : n < s.safe.length
    · have q1 : (n < 0) = False := eq_false h0
      have q2 : ((s.safe.length : Int) ≤ n) = False := eq_false (by omega)
      go_wp2
      go_ret
      exact ⟨by first | rfl | (rw [decide_eq_false (by omega)]; rfl), rfl⟩
    · have q1 : (n < 0) = False := eq_false h0
      have q2 : ((s.safe.length : Int) ≤ n) = True := eq_true (by omega)
      go_wp2
      go_ret
      exact ⟨by first | rfl | (rw [decide_eq_true (by omega)]; rfl), rfl⟩
set_option maxHeartbeats 8000000 in
set_option maxRecDepth 100000 in
theorem rfalls_calls {base : Nat} {L : Nat → Sl} {N i g : Nat} {s : DS} {w : World} (h : Many base L N w) (hd : DiskR L i g s) (hi : i + 3 ≤ N) (hf : 0 ≤ s.fall ∧ s.fall ≤ 9223372036854775807) (ho : s.off = false) :
    Calls Try.prog 50 #[.pointer (some ⟨g, 0, none⟩)] w fun e w' => e = .returned (.bool (fallS s).off) ∧ ∃ L', Many base L' N w' ∧ DiskR L' i g (fallS s) ∧ Else3 L L' i ∧ Below base w w' := by
  obtain ⟨_, _, h2, h3, h4, hb, hfz⟩ := diskr_cells h hd hi
  have hz2 := hfz 2 (by decide)
  have hz3 := hfz 3 (by decide)
  have hz4 := hfz 4 (by decide)
  have HM := Aside0.mk h
  have HD := Aside0.mk hd
  have HB := Aside0.mk hb
  have HO := Aside0.mk ho
  clear h hd hfz hb ho
  go_enter Try.func50, Try.ntmps50
  by_cases h0 : 0 < s.fall
  · have q0 : (s.fall = 0) = False := eq_false (by omega)
    have q0' : (s.fall == 0) = false := by simp; omega
    have ws := wrap_sub s.fall ⟨h0, hf.2⟩
    by_cases h1 : s.fall = 1
    · have E : Aside0 (fallS s = { s with fall := 0, off := true, opn := true }) := ⟨by unfold fallS; rw [if_pos h0, if_pos h1]⟩
      obtain ⟨L1, m1, d1, e1⟩ := diskr_set HM.out HD.out hi 4 (.int .i64 0) { s with fall := 0 } ⟨rfl, rfl⟩ (fun _ _ => rfl)
      obtain ⟨L2, m2, d2, e2⟩ := diskr_set m1 d1 hi 2 (.bool true) { s with fall := 0, off := true } ⟨rfl, rfl⟩ (fun _ _ => rfl)
      obtain ⟨L3, m3, d3, e3⟩ := diskr_set m2 d2 hi 3 (.bool true) { s with fall := 0, off := true, opn := true } ⟨rfl, rfl⟩ (fun _ _ => rfl)
      have R : Aside0 (∃ L', Many base L' N (((w.setCell ⟨g, 4, none⟩ (.int .i64 0)).setCell ⟨g, 2, none⟩ (.bool true)).setCell ⟨g, 3, none⟩ (.bool true)) ∧ DiskR L' i g (fallS s) ∧ Else3 L L' i ∧ Below base w (((w.setCell ⟨g, 4, none⟩ (.int .i64 0)).setCell ⟨g, 2, none⟩ (.bool true)).setCell ⟨g, 3, none⟩ (.bool true))) := ⟨L3, m3, by rw [E.out]; exact d3, else3_trans (else3_trans e1 e2) e3, (((below_refl_at w base).setCell (by exact HB.out) _).setCell (by exact HB.out) _).setCell (by exact HB.out) _⟩
      rw [h1] at h4
      clear m1 d1 e1 m2 d2 e2 m3 d3 e3 h1 ws q0 q0'
      go_wp2
      go_ret
      exact ⟨by rw [E.out]; rfl, R.out⟩
    · have E : Aside0 (fallS s = { s with fall := s.fall - 1 }) := ⟨by unfold fallS; rw [if_pos h0, if_neg h1]⟩
      have q2 : (1 < s.fall) = True := eq_true (by omega)
      have q3 : (s.fall ≤ 1) = False := eq_false (by omega)
      obtain ⟨L1, m1, d1, e1⟩ := diskr_set HM.out HD.out hi 4 (.int .i64 (s.fall - 1)) { s with fall := s.fall - 1 } ⟨rfl, rfl⟩ (fun _ _ => rfl)
      have R : Aside0 (∃ L', Many base L' N (w.setCell ⟨g, 4, none⟩ (.int .i64 (s.fall - 1))) ∧ DiskR L' i g (fallS s) ∧ Else3 L L' i ∧ Below base w (w.setCell ⟨g, 4, none⟩ (.int .i64 (s.fall - 1)))) := ⟨L1, m1, by rw [E.out]; exact d1, e1, (below_refl_at w base).setCell (by exact HB.out) _⟩
      clear m1 d1 e1 h1
      go_wp2
      go_ret
      exact ⟨by rw [E.out]; exact congrArg _ (congrArg _ HO.out.symm), R.out⟩
  · have E : Aside0 (fallS s = s) := ⟨by unfold fallS; rw [if_neg h0]⟩
    have e0 : s.fall = 0 := by omega
    rw [e0] at h4
    go_wp2
    go_ret
    exact ⟨by rw [E.out]; exact congrArg _ (congrArg _ HO.out.symm), L, HM.out, by rw [E.out]; exact HD.out, fun _ _ => rfl, below_refl_at w base⟩
set_option maxHeartbeats 8000000 in
set_option maxRecDepth 100000 in
theorem rfall_calls {base : Nat} {L : Nat → Sl} {N i g : Nat} {s : DS} {w : World} (n : Int) (h : Many base L N w) (hd : DiskR L i g s) (hi : i + 3 ≤ N) :
    Calls Try.prog 37 #[.pointer (some ⟨g, 0, none⟩), .int .i64 n] w fun e w' => e = .returned (.tuple #[]) ∧ ∃ L', Many base L' N w' ∧ DiskR L' i g { s with fall := max 0 n } ∧ Else3 L L' i ∧ Below base w w' := by
  obtain ⟨_, _, h2, h3, h4, hb, hfz⟩ := diskr_cells h hd hi
  have hz4 := hfz 4 (by decide)
  obtain ⟨L1, m1, d1, e1⟩ := diskr_set h hd hi 4 (.int .i64 n) { s with fall := n } ⟨rfl, rfl⟩ (fun _ _ => rfl)
  obtain ⟨_, _, _, _, g4, _, gfz⟩ := diskr_cells m1 d1 hi
  have gz4 := gfz 4 (by decide)
  obtain ⟨L2, m2, d2, e2⟩ := diskr_set m1 d1 hi 4 (.int .i64 0) { s with fall := 0 } ⟨rfl, rfl⟩ (fun _ _ => rfl)
  have HB := Aside0.mk hb
  have M1 := Aside0.mk m1
  have D1 := Aside0.mk d1
  have M2 := Aside0.mk m2
  have D2 := Aside0.mk d2
  have E1 := Aside0.mk e1
  have E2 := Aside0.mk e2
  clear h hd hfz hb m1 d1 e1 m2 d2 e2 gfz
  go_enter Try.func37, Try.ntmps37
  by_cases h1 : n < 1
  · have q1 : (n < 1) = True := eq_true h1
    have em : max 0 n = 0 := by omega
    go_wp2
    go_end0
    exact ⟨rfl, L2, M2.out, by first | exact D2.out | (rw [em]; exact D2.out), else3_trans E1.out E2.out, ((below_refl_at w base).setCell (by exact HB.out) _).setCell (by exact HB.out) _⟩
  · have q1 : (n < 1) = False := eq_false h1
    have em : max 0 n = n := by omega
    go_wp2
    go_end0
    exact ⟨rfl, L1, M1.out, by first | exact D1.out | (rw [em]; exact D1.out), E1.out, (below_refl_at w base).setCell (by exact HB.out) _⟩
/-- The last pending write to a sector, else what is safe. -/
def lastW (ps : List (Int × ByteArray)) (n : Int) : Option ByteArray := (ps.reverse.find? (fun p => decide (p.1 = n))).map (·.2)
theorem lastW_snoc (ps : List (Int × ByteArray)) (p : Int × ByteArray) (n : Int) : lastW (ps ++ [p]) n = if p.1 = n then some p.2 else lastW ps n := by
  unfold lastW
  rw [List.reverse_append, List.reverse_singleton, List.singleton_append, List.find?_cons]
  by_cases h : p.1 = n
  · simp [h]
  · simp [h]
def readR (s : DS) (n : Int) : ByteArray × Int := if s.off then (ByteArray.empty, 9) else if 0 ≤ n ∧ n < s.safe.length then ((lastW s.pend n).getD (s.safe.getD n.toNat ByteArray.empty), 0) else (ByteArray.empty, 1)
theorem done_last (l : List ByteArray) (n : Nat) (hn : n < l.length) (m : Nat) : ∀ ps : List (Int × ByteArray), ps.length = m → (∀ p ∈ ps, 0 ≤ p.1) → (done l ps).getD n ByteArray.empty = (lastW ps n).getD (l.getD n ByteArray.empty) := by
  induction m with
  | zero =>
    intro ps h _
    rw [List.length_eq_zero_iff.1 h]; rfl
  | succ m ih =>
    intro ps h h0
    obtain ⟨q, p, rfl⟩ : ∃ q p, ps = q ++ [p] := by
      rcases List.eq_nil_or_concat ps with e | ⟨q, p, e⟩
      · rw [e] at h; cases h
      · exact ⟨q, p, by rw [e, List.concat_eq_append]⟩
    have hq : q.length = m := by rw [List.length_append] at h; simpa using h
    have ihq := ih q hq (fun x hx => h0 x (List.mem_append.2 (.inl hx)))
    have hp := h0 p (List.mem_append.2 (.inr (List.mem_singleton.2 rfl)))
    rw [done_snoc, lastW_snoc, List.getD_eq_getElem?_getD, List.getElem?_set]
    by_cases e : p.1 = (n : Int)
    · have e2 : p.1.toNat = n := by omega
      rw [if_pos e2, if_pos e, if_pos (by rw [done_len]; omega)]; rfl
    · have e2 : ¬ p.1.toNat = n := by omega
      rw [if_neg e2, if_neg e, ← List.getD_eq_getElem?_getD, ihq]
theorem read_same {s : DS} (hs : s.seen = done s.safe s.pend) (h0 : ∀ p ∈ s.pend, 0 ≤ p.1) (n : Int) : readR s n = readS s n := by
  unfold readR readS
  rw [hs, done_len]
  split
  · rfl
  · split
    · rename_i h
      have e : n = (n.toNat : Int) := by omega
      rw [done_last s.safe n.toNat (by omega) _ s.pend rfl h0, ← e]
    · rfl
set_option maxHeartbeats 8000000 in
set_option maxRecDepth 100000 in
theorem rread_calls {base : Nat} {L : Nat → Sl} {N i g : Nat} {s : DS} {w : World} (n : Int) (h : Many base L N w) (hd : DiskR L i g s) (hi : i + 3 ≤ N) (hpl : s.pend.length ≤ 549755813888) :
    Calls Try.prog 33 #[.pointer (some ⟨g, 0, none⟩), .int .i64 n] w fun e w' => e = .returned (.tuple #[.string (readR s n).1, .int .i64 (readR s n).2]) ∧ w' = w := by
  obtain ⟨⟨A, c, h0, hv0, _⟩, ⟨Ap, cp, h1, hvp, hcp⟩, h2, _, _, _, _⟩ := diskr_cells h hd hi
  have HI := fun (W : World) (hW : W = w) => none_calls (w := W) n (hW ▸ h) hd hi
  have HM := Aside0.mk h
  have HD := Aside0.mk hd
  clear h hd
  go_enter Try.func33, Try.ntmps33
  cases ho : s.off with
  | true =>
    have E : Aside0 (readR s n = (ByteArray.empty, 9)) := ⟨by unfold readR; rw [ho]; rfl⟩
    rw [ho] at h2
    go_wp2
    go_ret2
    exact ⟨by rw [E.out]; rfl, rfl⟩
  | false =>
    rw [ho] at h2
    by_cases hn : 0 ≤ n ∧ n < s.safe.length
    · obtain ⟨m, rfl⟩ : ∃ m : Nat, n = m := ⟨n.toNat, by omega⟩
      have hm : m < s.safe.length := by omega
      have E : Aside0 (readR s m = ((lastW s.pend m).getD (s.safe.getD m ByteArray.empty), 0)) := ⟨by unfold readR; rw [ho, if_pos hn]; rfl⟩
      obtain ⟨g1, c1, e1, hc1, _, _⟩ := row_text HM.out (by omega) HD.out.2.1 m hm
      obtain ⟨rfl, rfl⟩ : A = some ⟨g1, 0, none⟩ ∧ c = c1 := by rw [hv0] at e1; injection e1 with a b c; exact ⟨a, c⟩
      have q2 : (m < s.safe.length) = True := eq_true hm
      have q3 : (s.safe.length ≤ m) = False := eq_false (by omega)
      have q4 : decide (¬ ((0 : Int) ≤ (m : Int) ∧ (m : Int) < s.safe.length)) = false := decide_eq_false (fun hh => hh hn)
      rw [q4] at HI
      generalize s.safe.getD m ByteArray.empty = x at hc1 E
      obtain ⟨p0, hp0⟩ : ∃ p0 : Int, p0 = (s.pend.length : Int) - 1 := ⟨_, rfl⟩
      have w0 : wrap64 ((s.pend.length : Int) - 1) = p0 := by rw [hp0]; unfold wrap64; omega
      go_upto_region 6 with (go_at_call 49; (with_reducible refine (HI _ rfl).mono ?_); rintro e w' ⟨rfl, hw⟩; obtain rfl := hw.symm)
      clear w0 HI q4
      go_loopw [6] (fun v6 W => ∃ k : Nat, k ≤ s.pend.length ∧ v6 = .int .i64 ((k : Int) - 1) ∧ Aside0 (lastW s.pend m = lastW (s.pend.take k) m) ∧ W = w) (fun v6 _ => (intOf v6 + 1).toNat)
      case atStart => exact ⟨s.pend.length, Nat.le_refl _, (by first | rfl | rw [hp0]), ⟨by rw [List.take_length]⟩, rfl⟩
      case round =>
        obtain ⟨k, hk, rfl, HL, rfl⟩ := hrel
        cases k with
        | zero =>
          have q1 : ((0 : Int) ≤ ((0 : Nat) : Int) - 1) = False := eq_false (by omega)
          have E2 : Aside0 (readR s m = (x, 0)) := ⟨by rw [E.out, HL.out]; rfl⟩
          clear HL E
          go_wp2
          go_ret2
          exact ⟨by rw [E2.out]; rfl, rfl⟩
        | succ k =>
          have hkl : k < s.pend.length := by omega
          obtain ⟨p, hpk⟩ : ∃ p, s.pend[k]? = some p := ⟨_, List.getElem?_eq_getElem hkl⟩
          obtain ⟨pn, x2⟩ := p
          obtain ⟨gp, cp', e2, hc0, hc2⟩ := row_pend HM.out (by omega) HD.out.2.2 k _ hpk
          obtain ⟨rfl, rfl⟩ : Ap = some ⟨gp, 0, none⟩ ∧ cp = cp' := by rw [hvp] at e2; injection e2 with a b c; exact ⟨a, c⟩
          have ek : (((k + 1 : Nat) : Int) - 1) = (k : Int) := by omega
          have HL2 : Aside0 (lastW s.pend m = if pn = (m : Int) then some x2 else lastW (s.pend.take k) m) := ⟨by rw [HL.out, take_snoc _ _ _ hpk, lastW_snoc]⟩
          rw [ek]
          clear HL e2
          have q1 : ((0 : Int) ≤ (k : Int)) = True := eq_true (by omega)
          have q5 : (k < s.pend.length) = True := eq_true hkl
          have q6 : (s.pend.length ≤ k) = False := eq_false (by omega)
          have q7 : ((k : Int) < (s.pend.length : Int)) = True := eq_true (by omega)
          by_cases hpn : pn = (m : Int)
          · subst hpn
            have E2 : Aside0 (readR s m = (x2, 0)) := ⟨by rw [E.out, HL2.out, if_pos rfl]; rfl⟩
            clear HL2 E
            go_wp2
            go_ret2
            exact ⟨by rw [E2.out]; rfl, rfl⟩
          · have q8 : (pn = (m : Int)) = False := eq_false hpn
            have q9 : (pn == (m : Int)) = false := by simp [hpn]
            go_wp2
            exact ⟨⟨k, by omega, by go_num, ⟨by rw [HL2.out, if_neg hpn]⟩, by first | trivial | rfl⟩, by first | (simp [intOf]; done) | (simp [intOf]; omega)⟩
    · have E : Aside0 (readR s n = (ByteArray.empty, 1)) := ⟨by unfold readR; rw [ho, if_neg hn]; rfl⟩
      have q4 : decide (¬ ((0 : Int) ≤ n ∧ n < s.safe.length)) = true := decide_eq_true hn
      rw [q4] at HI
      go_wp2_with (go_at_call 49; (with_reducible refine (HI _ rfl).mono ?_); rintro e w' ⟨rfl, rfl⟩)
      go_ret2
      exact ⟨by rw [E.out]; rfl, rfl⟩
end Go.Proofs.Ytebhmbdblifddaa.Dk
