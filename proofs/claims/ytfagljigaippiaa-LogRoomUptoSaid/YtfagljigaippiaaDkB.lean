/- Chapter 7 (the disk): a disk's calls that change no row. -/
import Derived.Test.YtfagljigaippiaaDkA
import Derived.WalkKit
namespace Go.Proofs.Ytfagljigaippiaa.Dk
open Go.RowKit Go.Proofs.Ytfagljigaippiaa.X Go.Proofs.YtfagljigaippiaaW.PrintWords Go.Proofs.YtfagljigaippiaaW.PrintLast Go.Proofs.YtfagljigaippiaaW.PrintMore
set_option linter.unusedVariables false
set_option linter.unusedSimpArgs false

set_option maxHeartbeats 8000000 in
set_option maxRecDepth 100000 in
theorem off_calls {base : Nat} {L : Nat → Sl} {N i g : Nat} {s : DS} {w : World} (h : Many base L N w) (hd : Disk L i g s) (hi : i + 4 ≤ N) :
    Calls Try.prog 32 #[.pointer (some ⟨g, 0, none⟩)] w fun e w' => e = .returned (.bool s.off) ∧ w' = w := by
  obtain ⟨_, _, _, _, h4, _, _, _⟩ := disk_cells h hd hi
  clear h hd
  go_enter Try.func32, Try.ntmps32
  go_wp2
  go_ret
  exact ⟨rfl, rfl⟩
set_option maxHeartbeats 8000000 in
set_option maxRecDepth 100000 in
theorem pending_calls {base : Nat} {L : Nat → Sl} {N i g : Nat} {s : DS} {w : World} (h : Many base L N w) (hd : Disk L i g s) (hi : i + 4 ≤ N) :
    Calls Try.prog 17 #[.pointer (some ⟨g, 0, none⟩)] w fun e w' => e = .returned (.int .i64 s.pend.length) ∧ w' = w := by
  obtain ⟨_, _, ⟨A, c, h2, _, _⟩, _⟩ := disk_cells h hd hi
  clear h hd
  go_enter Try.func17, Try.ntmps17
  go_wp2
  go_ret
  exact ⟨rfl, rfl⟩
set_option maxHeartbeats 8000000 in
set_option maxRecDepth 100000 in
theorem sectors_calls {base : Nat} {L : Nat → Sl} {N i g : Nat} {s : DS} {w : World} (h : Many base L N w) (hd : Disk L i g s) (hi : i + 4 ≤ N) :
    Calls Try.prog 33 #[.pointer (some ⟨g, 0, none⟩)] w fun e w' => e = .returned (.int .i64 s.seen.length) ∧ w' = w := by
  obtain ⟨⟨A, c, h2, _, _⟩, _⟩ := disk_cells h hd hi
  clear h hd
  go_enter Try.func33, Try.ntmps33
  go_wp2
  go_ret
  exact ⟨rfl, rfl⟩
set_option maxHeartbeats 8000000 in
set_option maxRecDepth 100000 in
theorem is_calls {base : Nat} {L : Nat → Sl} {N i g : Nat} {s : DS} {w : World} (n : Int) (h : Many base L N w) (hd : Disk L i g s) (hi : i + 4 ≤ N) :
    Calls Try.prog 49 #[.pointer (some ⟨g, 0, none⟩), .int .i64 n] w fun e w' => e = .returned (.bool (decide (0 ≤ n ∧ n < s.seen.length))) ∧ w' = w := by
  obtain ⟨⟨A, c, h2, _, _⟩, _⟩ := disk_cells h hd hi
  clear h hd
  go_enter Try.func49, Try.ntmps49
  by_cases h0 : 0 ≤ n
  · by_cases h1 : n < s.seen.length
    · have q1 : (0 ≤ n) = True := eq_true h0
      have q2 : (n < (s.seen.length : Int)) = True := eq_true h1
      go_wp2
      go_ret
      exact ⟨by first | rfl | (rw [decide_eq_true ⟨h0, h1⟩]; rfl), rfl⟩
    · have q1 : (0 ≤ n) = True := eq_true h0
      have q2 : (n < (s.seen.length : Int)) = False := eq_false h1
      go_wp2
      go_ret
      exact ⟨by first | rfl | (rw [decide_eq_false (by omega)]; rfl), rfl⟩
  · have q1 : (0 ≤ n) = False := eq_false h0
    go_wp2
    go_ret
    exact ⟨by first | rfl | (rw [decide_eq_false (by omega)]; rfl), rfl⟩
theorem below_refl_at (w : World) (base : Nat) : Below base w w := Below.refl base w
/-- What Read answers. -/
def readS (s : DS) (n : Int) : ByteArray × Int := if s.off then (ByteArray.empty, 9) else if 0 ≤ n ∧ n < s.seen.length then (s.seen.getD n.toNat ByteArray.empty, 0) else (ByteArray.empty, 1)
theorem row_text {base : Nat} {L : Nat → Sl} {N t : Nat} {xs : List ByteArray} {w : World} (h : Many base L N w) (ht : t < N) (hL : L t = ssl (L t).v xs) (j : Nat) (hj : j < xs.length) : ∃ g cap, (L t).v = .slice (some ⟨g, 0, none⟩) xs.length cap ∧ w.cell? ⟨g, j, none⟩ = some (.string (xs.getD j ByteArray.empty)) ∧ w.frozen? ⟨g, j, none⟩ = false ∧ base ≤ g := by
  have hn : (L t).n = xs.length := by rw [hL]; rfl
  have hx : (L t).xs = xs.map Value.string := by rw [hL]; rfl
  have hz : (L t).sz = 1 := by rw [hL]; rfl
  obtain ⟨g, cap, e, _, hb⟩ := many_form h t ht (by omega)
  obtain ⟨h1, h2, _⟩ := many_cell h t ht g cap e j (by rw [hn, hz]; omega)
  refine ⟨g, cap, by rw [e, hn], ?_, h2, hb⟩
  rw [h1, hx, List.getElem?_map, List.getElem?_eq_getElem hj, List.getD_eq_getElem?_getD, List.getElem?_eq_getElem hj]; rfl
set_option maxHeartbeats 8000000 in
set_option maxRecDepth 100000 in
theorem read_calls {base : Nat} {L : Nat → Sl} {N i g : Nat} {s : DS} {w : World} (n : Int) (h : Many base L N w) (hd : Disk L i g s) (hi : i + 4 ≤ N) :
    Calls Try.prog 25 #[.pointer (some ⟨g, 0, none⟩), .int .i64 n] w fun e w' => e = .returned (.tuple #[.string (readS s n).1, .int .i64 (readS s n).2]) ∧ w' = w := by
  obtain ⟨⟨A, c, h0, hv0, _⟩, _, _, _, h4, _, _, _⟩ := disk_cells h hd hi
  have HI := fun (W : World) (hW : W = w) => is_calls (w := W) n (hW ▸ h) hd hi
  have HM := Aside0.mk h
  have HD := Aside0.mk hd
  clear h hd
  go_enter Try.func25, Try.ntmps25
  cases ho : s.off with
  | true =>
    have E : Aside0 (readS s n = (ByteArray.empty, 9)) := ⟨by unfold readS; rw [ho]; rfl⟩
    rw [ho] at h4
    go_wp2
    go_ret2
    exact ⟨by rw [E.out]; rfl, rfl⟩
  | false =>
    rw [ho] at h4
    by_cases hn : 0 ≤ n ∧ n < s.seen.length
    · obtain ⟨m, rfl⟩ : ∃ m : Nat, n = m := ⟨n.toNat, by omega⟩
      have hm : m < s.seen.length := by omega
      have E : Aside0 (readS s m = (s.seen.getD m ByteArray.empty, 0)) := ⟨by unfold readS; rw [ho, if_pos hn]; rfl⟩
      obtain ⟨g1, c1, e1, hc1, _, _⟩ := row_text HM.out (by omega) HD.out.2.1 m hm
      obtain ⟨rfl, rfl⟩ : A = some ⟨g1, 0, none⟩ ∧ c = c1 := by rw [hv0] at e1; injection e1 with a b c; exact ⟨a, c⟩
      have q1 : ((0 : Int) ≤ (m : Int)) = True := eq_true (by omega)
      have q2 : (m < s.seen.length) = True := eq_true hm
      have q3 : (s.seen.length ≤ m) = False := eq_false (by omega)
      have q4 : decide ((0 : Int) ≤ (m : Int) ∧ (m : Int) < s.seen.length) = true := decide_eq_true hn
      rw [q4] at HI
      try (generalize s.seen.getD m ByteArray.empty = x at hc1 E)
      go_wp2_with (go_at_call 49; (with_reducible refine (HI _ rfl).mono ?_); rintro e w' ⟨rfl, rfl⟩)
      go_ret2
      exact ⟨by rw [E.out]; rfl, rfl⟩
    · have E : Aside0 (readS s n = (ByteArray.empty, 1)) := ⟨by unfold readS; rw [ho, if_neg hn]; rfl⟩
      have q4 : decide ((0 : Int) ≤ n ∧ n < s.seen.length) = false := decide_eq_false hn
      rw [q4] at HI
      go_wp2_with (go_at_call 49; (with_reducible refine (HI _ rfl).mono ?_); rintro e w' ⟨rfl, rfl⟩)
      go_ret2
      exact ⟨by rw [E.out]; rfl, rfl⟩
/-- Does the power go? -/
def fallS (s : DS) : DS := if 0 < s.fall then (if s.fall = 1 then { s with fall := 0, off := true, opn := true } else { s with fall := s.fall - 1 }) else s
theorem else_trans {L L' L'' : Nat → Sl} {i : Nat} (h : Else L L' i) (k : Else L' L'' i) : Else L L'' i := fun j hj => (k j hj).trans (h j hj)
theorem wrap_sub (n : Int) (h : 0 < n ∧ n ≤ 9223372036854775807) : wrap64 (n - 1) = n - 1 := by unfold wrap64; omega
set_option maxHeartbeats 8000000 in
set_option maxRecDepth 100000 in
theorem falls_calls {base : Nat} {L : Nat → Sl} {N i g : Nat} {s : DS} {w : World} (h : Many base L N w) (hd : Disk L i g s) (hi : i + 4 ≤ N) (hf : s.fall ≤ 9223372036854775807) :
    Calls Try.prog 50 #[.pointer (some ⟨g, 0, none⟩)] w fun e w' => e = .returned (.bool (fallS s).off) ∧ ∃ L', Many base L' N w' ∧ Disk L' i g (fallS s) ∧ Else L L' i ∧ Below base w w' := by
  obtain ⟨_, _, _, h3, h4, h5, hb, hfz⟩ := disk_cells h hd hi
  have hz3 := hfz 3 (by decide)
  have hz4 := hfz 4 (by decide)
  have hz5 := hfz 5 (by decide)
  have HM := Aside0.mk h
  have HD := Aside0.mk hd
  have HB := Aside0.mk hb
  clear h hd hfz hb
  go_enter Try.func50, Try.ntmps50
  by_cases h0 : 0 < s.fall
  · have q1 : (0 < s.fall) = True := eq_true h0
    have ws := wrap_sub s.fall ⟨h0, hf⟩
    by_cases h1 : s.fall = 1
    · have E : Aside0 (fallS s = { s with fall := 0, off := true, opn := true }) := ⟨by unfold fallS; rw [if_pos h0, if_pos h1]⟩
      rw [h1] at h3
      obtain ⟨L1, m1, d1, e1⟩ := disk_set HM.out HD.out hi 3 (.int .i64 0) { s with fall := 0 } ⟨rfl, rfl, rfl⟩ (fun _ _ _ => rfl)
      obtain ⟨L2, m2, d2, e2⟩ := disk_set m1 d1 hi 4 (.bool true) { s with fall := 0, off := true } ⟨rfl, rfl, rfl⟩ (fun _ _ _ => rfl)
      obtain ⟨L3, m3, d3, e3⟩ := disk_set m2 d2 hi 5 (.bool true) { s with fall := 0, off := true, opn := true } ⟨rfl, rfl, rfl⟩ (fun _ _ _ => rfl)
      have R : Aside0 (∃ L', Many base L' N (((w.setCell ⟨g, 3, none⟩ (.int .i64 0)).setCell ⟨g, 4, none⟩ (.bool true)).setCell ⟨g, 5, none⟩ (.bool true)) ∧ Disk L' i g (fallS s) ∧ Else L L' i ∧ Below base w (((w.setCell ⟨g, 3, none⟩ (.int .i64 0)).setCell ⟨g, 4, none⟩ (.bool true)).setCell ⟨g, 5, none⟩ (.bool true))) := ⟨L3, m3, by rw [E.out]; exact d3, else_trans (else_trans e1 e2) e3, (((below_refl_at w base).setCell (by exact HB.out) _).setCell (by exact HB.out) _).setCell (by exact HB.out) _⟩
      clear m1 d1 e1 m2 d2 e2 m3 d3 e3 h1 ws
      go_wp2
      go_ret
      exact ⟨by rw [E.out]; rfl, R.out⟩
    · have E : Aside0 (fallS s = { s with fall := s.fall - 1 }) := ⟨by unfold fallS; rw [if_pos h0, if_neg h1]⟩
      have q2 : (s.fall - 1 = 0) = False := eq_false (by omega)
      have q3 : ((s.fall - 1) == 0) = false := by simp; omega
      obtain ⟨L1, m1, d1, e1⟩ := disk_set HM.out HD.out hi 3 (.int .i64 (s.fall - 1)) { s with fall := s.fall - 1 } ⟨rfl, rfl, rfl⟩ (fun _ _ _ => rfl)
      have R : Aside0 (∃ L', Many base L' N (w.setCell ⟨g, 3, none⟩ (.int .i64 (s.fall - 1))) ∧ Disk L' i g (fallS s) ∧ Else L L' i ∧ Below base w (w.setCell ⟨g, 3, none⟩ (.int .i64 (s.fall - 1)))) := ⟨L1, m1, by rw [E.out]; exact d1, e1, (below_refl_at w base).setCell (by exact HB.out) _⟩
      clear m1 d1 e1 h1
      go_wp2
      go_ret
      exact ⟨by rw [E.out]; rfl, R.out⟩
  · have E : Aside0 (fallS s = s) := ⟨by unfold fallS; rw [if_neg h0]⟩
    have q1 : (0 < s.fall) = False := eq_false h0
    go_wp2
    go_ret
    exact ⟨by rw [E.out]; rfl, L, HM.out, by rw [E.out]; exact HD.out, fun _ _ => rfl, below_refl_at w base⟩
set_option maxHeartbeats 8000000 in
set_option maxRecDepth 100000 in
theorem fall_calls {base : Nat} {L : Nat → Sl} {N i g : Nat} {s : DS} {w : World} (n : Int) (h : Many base L N w) (hd : Disk L i g s) (hi : i + 4 ≤ N) :
    Calls Try.prog 29 #[.pointer (some ⟨g, 0, none⟩), .int .i64 n] w fun e w' => e = .returned (.tuple #[]) ∧ ∃ L', Many base L' N w' ∧ Disk L' i g { s with fall := max 0 n } ∧ Else L L' i ∧ Below base w w' := by
  obtain ⟨_, _, _, h3, h4, h5, hb, hfz⟩ := disk_cells h hd hi
  have hz3 := hfz 3 (by decide)
  obtain ⟨L1, m1, d1, e1⟩ := disk_set h hd hi 3 (.int .i64 (max 0 n)) { s with fall := max 0 n } ⟨rfl, rfl, rfl⟩ (fun _ _ _ => rfl)
  have R : Aside0 (∃ L', Many base L' N (w.setCell ⟨g, 3, none⟩ (.int .i64 (max 0 n))) ∧ Disk L' i g { s with fall := max 0 n } ∧ Else L L' i ∧ Below base w (w.setCell ⟨g, 3, none⟩ (.int .i64 (max 0 n)))) := ⟨L1, m1, d1, e1, (below_refl_at w base).setCell (by exact hb) _⟩
  clear h hd hfz hb m1 d1 e1
  have RM : Aside0 (∀ m : Int, m = max 0 n → ∃ L', Many base L' N (w.setCell ⟨g, 3, none⟩ (.int .i64 m)) ∧ Disk L' i g { s with fall := max 0 n } ∧ Else L L' i ∧ Below base w (w.setCell ⟨g, 3, none⟩ (.int .i64 m))) := ⟨fun m e => by rw [e]; exact R.out⟩
  clear R
  go_enter Try.func29, Try.ntmps29
  go_wp2
  all_goals (go_end0; exact ⟨rfl, RM.out _ (by omega)⟩)
end Go.Proofs.Ytfagljigaippiaa.Dk
