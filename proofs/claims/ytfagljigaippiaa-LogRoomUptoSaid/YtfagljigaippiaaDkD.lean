/- Chapter 7 (the disk): Write. -/
import Derived.Test.YtfagljigaippiaaDkC
namespace Go.Proofs.Ytfagljigaippiaa.Dk
open Go.RowKit Go.Proofs.Ytfagljigaippiaa.X Go.Proofs.YtfagljigaippiaaW.PrintWords Go.Proofs.YtfagljigaippiaaW.PrintLast Go.Proofs.YtfagljigaippiaaW.PrintMore
set_option linter.unusedVariables false
set_option linter.unusedSimpArgs false

theorem infoW : (Try.prog.info? 96).map (fun i => (i.zero, i.size, i.bytes)) = some (some (.agg #[.int .i64 0, .string ByteArray.empty]), 2, 24) := by kernel_rfl
theorem exec_append {t : TypeId} {o : Oper} {f : Operand → Value} {W W' : World} {v' : Value} (s x : Operand) (ho : o.op = .call { callee := .builtin .append, args := #[s, x], argTypes := #[t, t] }) (hty : o.type = t) (v u : Value) (hs : f s = v) (hx : f x = u)
    (hr : (Builtin.append_ #[t, t] t #[v, u]).run Try.prog W = .ok v' W') : (execOp f o).run Try.prog W = .ok (.value v') W' := by
  unfold execOp
  simp only [ho, hty, resolve, invoke, builtin, Sem.run_bind, Sem.run_pure, Result.andThen_ok, List.map_toArray, List.map_cons, List.map_nil, hs, hx, hr]
theorem wsl_snoc (T : TypeId) (v : Value) (ps : List (Int × ByteArray)) (p : Int × ByteArray) : (⟨v, T, 2, ps.length + 1, wcs ps ++ wc p⟩ : Sl) = wsl T v (ps ++ [p]) := by
  unfold wsl wcs
  rw [List.length_append, List.flatMap_append]
  simp
/-- The seen texts turn in their place; the pending writes have another row. -/
theorem disk_seen {L : Nat → Sl} {i g : Nat} {s : DS} (hd : Disk L i g s) (xs : List ByteArray) : Disk (upd L (i + 1) (ssl (L (i + 1)).v xs)) i g { s with seen := xs } ∧ Else L (upd L (i + 1) (ssl (L (i + 1)).v xs)) i := by
  obtain ⟨h0, h1, h2, h3⟩ := hd
  refine ⟨⟨?_, ?_, ?_, ?_⟩, fun j hj => upd_ne (by omega)⟩
  · rw [upd_ne (by omega), upd_at, upd_ne (by omega), upd_ne (by omega)]; exact h0
  · rw [upd_at]; rfl
  · rw [upd_ne (by omega)]; exact h2
  · rw [upd_ne (by omega)]; exact h3
theorem disk_safe {L : Nat → Sl} {i g : Nat} {s : DS} (hd : Disk L i g s) (xs : List ByteArray) : Disk (upd L (i + 2) (ssl (L (i + 2)).v xs)) i g { s with safe := xs } ∧ Else L (upd L (i + 2) (ssl (L (i + 2)).v xs)) i := by
  obtain ⟨h0, h1, h2, h3⟩ := hd
  refine ⟨⟨?_, ?_, ?_, ?_⟩, fun j hj => upd_ne (by omega)⟩
  · rw [upd_ne (by omega), upd_at, upd_ne (by omega), upd_ne (by omega)]; exact h0
  · rw [upd_ne (by omega)]; exact h1
  · rw [upd_at]; rfl
  · rw [upd_ne (by omega)]; exact h3
theorem disk_pend {L : Nat → Sl} {i g : Nat} {s : DS} (hd : Disk L i g s) (v' : Value) (ps : List (Int × ByteArray)) : Disk (upd (upd L (i + 3) (wsl 96 v' ps)) i (osl g 73 ([(L (i + 1)).v, (L (i + 2)).v, (L (i + 3)).v, .int .i64 s.fall, .bool s.off, .bool s.opn].set 2 v'))) i g { s with pend := ps } ∧ Else L (upd (upd L (i + 3) (wsl 96 v' ps)) i (osl g 73 ([(L (i + 1)).v, (L (i + 2)).v, (L (i + 3)).v, .int .i64 s.fall, .bool s.off, .bool s.opn].set 2 v'))) i := by
  obtain ⟨h0, h1, h2, h3⟩ := hd
  refine ⟨⟨?_, ?_, ?_, ?_⟩, fun j hj => by rw [upd_ne (by omega), upd_ne (by omega)]⟩
  · rw [upd_at, upd_ne (by omega), upd_ne (by omega), upd_ne (by omega), upd_ne (by omega), upd_ne (by omega), upd_at]; rfl
  · rw [upd_ne (by omega), upd_ne (by omega)]; exact h1
  · rw [upd_ne (by omega), upd_ne (by omega)]; exact h2
  · rw [upd_ne (by omega), upd_at]; rfl
/-- What Write does and answers. -/
def writeS (s : DS) (n : Int) (x : ByteArray) : DS × Int :=
  if s.off then (s, 9) else if ¬ ((0 ≤ n ∧ n < s.seen.length) ∧ x.size = 512) then (s, 1) else
    if (fallS s).off then (fallS s, 9) else ({ fallS s with seen := s.seen.set n.toNat x, pend := s.pend ++ [(n, x)] }, 0)
theorem fall_rows (s : DS) : (fallS s).seen = s.seen ∧ (fallS s).safe = s.safe ∧ (fallS s).pend = s.pend := by
  unfold fallS
  split
  · split <;> exact ⟨rfl, rfl, rfl⟩
  · exact ⟨rfl, rfl, rfl⟩
set_option maxHeartbeats 8000000 in
set_option maxRecDepth 100000 in
theorem write_calls {base : Nat} {L : Nat → Sl} {N i g : Nat} {s : DS} {w : World} (n : Int) (x : ByteArray) (h : Many base L N w) (hd : Disk L i g s) (hi : i + 4 ≤ N) (hf : s.fall ≤ 9223372036854775807) (hbase : base ≤ w.heap.size) (hp : s.pend.length ≤ 549755813888) :
    Calls Try.prog 23 #[.pointer (some ⟨g, 0, none⟩), .int .i64 n, .string x] w fun e w' => e = .returned (.int .i64 (writeS s n x).2) ∧ ∃ L', Many base L' N w' ∧ Disk L' i g (writeS s n x).1 ∧ Else L L' i ∧ Below base w w' := by
  have h4 := (disk_cells h hd hi).2.2.2.2.1
  have HI := fun (W : World) (hW : W = w) => is_calls (w := W) n (hW ▸ h) hd hi
  have HF := fun (W : World) (hW : W = w) => falls_calls (w := W) (hW ▸ h) hd hi hf
  have HM := Aside0.mk h
  have HD := Aside0.mk hd
  have HBS := Aside0.mk hbase
  clear h hd hbase
  go_enter Try.func23, Try.ntmps23
  cases ho : s.off with
  | true =>
    have E : Aside0 (writeS s n x = (s, 9)) := ⟨by unfold writeS; rw [ho]; rfl⟩
    rw [ho] at h4
    go_wp2
    go_ret
    exact ⟨by rw [E.out]; rfl, L, HM.out, by rw [E.out]; exact HD.out, fun _ _ => rfl, below_refl_at _ base⟩
  | false =>
    rw [ho] at h4
    by_cases hn : ¬ (0 ≤ n ∧ n < s.seen.length)
    · have E : Aside0 (writeS s n x = (s, 1)) := ⟨by unfold writeS; rw [ho]; simp only [Bool.false_eq_true, if_false]; rw [if_pos (fun h => hn h.1)]⟩
      have q4 : decide ((0 : Int) ≤ n ∧ n < s.seen.length) = false := decide_eq_false hn
      rw [q4] at HI
      go_wp2_with (go_at_call 49; (with_reducible refine (HI _ rfl).mono ?_); rintro e w' ⟨rfl, rfl⟩)
      go_ret
      exact ⟨by rw [E.out]; rfl, L, HM.out, by rw [E.out]; exact HD.out, fun _ _ => rfl, below_refl_at _ base⟩
    replace hn := Classical.not_not.1 hn
    have q4 : decide ((0 : Int) ≤ n ∧ n < s.seen.length) = true := decide_eq_true hn
    rw [q4] at HI
    by_cases hx : ¬ x.size = 512
    · have E : Aside0 (writeS s n x = (s, 1)) := ⟨by unfold writeS; rw [ho]; simp only [Bool.false_eq_true, if_false]; rw [if_pos (fun h => hx h.2)]⟩
      have q5 : ((x.size : Int) = 512) = False := eq_false (by omega)
      have q6 : ((x.size : Int) == 512) = false := by simp; omega
      go_wp2_with (go_at_call 49; (with_reducible refine (HI _ rfl).mono ?_); rintro e w' ⟨rfl, rfl⟩)
      go_ret
      exact ⟨by rw [E.out]; rfl, L, HM.out, by rw [E.out]; exact HD.out, fun _ _ => rfl, below_refl_at _ base⟩
    replace hx := Classical.not_not.1 hx
    have q5 : ((x.size : Int) = 512) = True := eq_true (by omega)
    have q6 : ((x.size : Int) == 512) = true := by simp; omega
    obtain ⟨fr1, fr2, fr3⟩ := fall_rows s
    cases hfo : (fallS s).off with
    | true =>
      have E : Aside0 (writeS s n x = (fallS s, 9)) := ⟨by unfold writeS; simp [ho, hn, hx, hfo]⟩
      rw [hfo] at HF
      go_wp2_with (first
        | (go_at_call 49; (with_reducible refine (HI _ rfl).mono ?_); rintro e w' ⟨rfl, rfl⟩)
        | (go_at_call 50; (with_reducible refine (HF _ rfl).mono ?_); rintro e w1 ⟨rfl, L1, m1, d1, e1, b1⟩; have R := Aside0.mk (⟨L1, m1, d1, e1, b1⟩ : ∃ L', Many base L' N w1 ∧ Disk L' i g (fallS s) ∧ Else L L' i ∧ Below base _ w1); clear m1 d1 e1 b1))
      go_ret
      exact ⟨by rw [E.out]; rfl, by rw [E.out]; exact R.out⟩
    | false =>
      have E : Aside0 (writeS s n x = ({ fallS s with seen := s.seen.set n.toNat x, pend := s.pend ++ [(n, x)] }, 0)) := ⟨by unfold writeS; simp [ho, hn, hx, hfo]⟩
      rw [hfo] at HF
      obtain ⟨m, rfl⟩ : ∃ m : Nat, n = m := ⟨n.toNat, by omega⟩
      have hm : m < s.seen.length := by omega
      go_upto_region 7 with (first
        | (go_at_call 49; (with_reducible refine (HI _ rfl).mono ?_); rintro e w' ⟨rfl, rfl⟩)
        | (go_at_call 50; (with_reducible refine (HF _ rfl).mono ?_); rintro e w1 ⟨rfl, L1, m1, d1, e1, b1⟩; have M1 := Aside0.mk m1; have D1 := Aside0.mk d1; have E1 := Aside0.mk e1; have B1 := Aside0.mk b1; clear m1 d1 e1 b1))
      clear HI HF
      obtain ⟨⟨A, c, h0, hv0, _⟩, _⟩ := disk_cells M1.out D1.out hi
      obtain ⟨g1, c1, e2, hc1, hz1, hb1⟩ := row_text M1.out (by omega) D1.out.2.1 m (by rw [fr1]; exact hm)
      obtain ⟨rfl, rfl⟩ : A = some ⟨g1, 0, none⟩ ∧ c = c1 := by rw [hv0] at e2; injection e2 with a b c; exact ⟨a, c⟩
      rw [fr1] at h0
      have q2 : (m < s.seen.length) = True := eq_true hm
      have q3 : (s.seen.length ≤ m) = False := eq_false (by omega)
      have M2 := text_set M1.out (i + 1) (by omega) g1 c (fallS s).seen D1.out.2.1 hv0 m x
      have B2 := Aside0.mk (B1.out.setCell (p := ⟨g1, m, none⟩) (by exact hb1) (.string x))
      have S1 := Aside0.mk (B1.out.size)
      obtain ⟨D2, E2⟩ := disk_seen D1.out ((fallS s).seen.set m x)
      obtain ⟨L2, hL2⟩ : ∃ L2, L2 = upd L1 (i + 1) (ssl (L1 (i + 1)).v ((fallS s).seen.set m x)) := ⟨_, rfl⟩
      obtain ⟨s2, hs2⟩ : ∃ s2 : DS, s2 = { fallS s with seen := (fallS s).seen.set m x } := ⟨_, rfl⟩
      have hs2p : s2.pend = s.pend := by rw [hs2]; exact fr3
      rw [← hL2, ← hs2] at D2
      rw [← hL2] at E2 M2
      have hfin : Aside0 ({ s2 with pend := s.pend ++ [((m : Int), x)] } = ({ fallS s with seen := s.seen.set m x, pend := s.pend ++ [((m : Int), x)] } : DS)) := ⟨by rw [hs2, fr1]⟩
      have M2a := Aside0.mk M2
      have D2a := Aside0.mk D2
      have E2a := Aside0.mk E2
      clear M2 D2 E2 hL2 hs2
      go_upto_region 8 with (fail)
      clear h0 hc1 hz1 q2 q3
      generalize w1.setCell ⟨g1, m, none⟩ (.string x) = w2 at M2a B2 ⊢
      have S2 := B2.out.size
      obtain ⟨_, _, ⟨A3, c3, h2, hv3, _⟩, _, _, _, hbg, hfz⟩ := disk_cells M2a.out D2a.out hi
      have hz2 := hfz 2 (by decide)
      rw [hv3.symm] at h2
      obtain ⟨v', w4, hr, M4, B4⟩ := many_grow 71 96 2 24 (.agg #[.int .i64 0, .string ByteArray.empty]) Try.underlying71 infoW rfl (by decide) (by decide) M2a.out (i + 3) (by omega) _ _ _ D2a.out.2.2.2 [.int .i64 (m : Int), .string x] rfl (fun q hq => by
        simp only [List.mem_cons, List.not_mem_nil, or_false] at hq
        rcases hq with rfl | rfl <;> rfl) B2.out (Nat.le_trans HBS.out S2) (by rw [hs2p]; exact hp)
      obtain ⟨A5, c5, e5, _⟩ := many_val M4 (i + 3) (by omega)
      rw [upd_at] at e5
      have e5' : v' = .slice A5 (s2.pend.length + 1) c5 := e5
      subst e5'
      obtain ⟨h4', hz4, _⟩ := obj_cell M4 i (by omega) g 73 _ (by rw [upd_ne (by omega)]; exact D2a.out.1) 2 (by show 2 < 6; decide)
      have M5 := obj_set M4 i (by omega) g 73 _ (by rw [upd_ne (by omega)]; exact D2a.out.1) 2 (.slice A5 (s2.pend.length + 1) c5)
      have ew := wsl_snoc 96 (.slice A5 (s2.pend.length + 1) c5) s2.pend ((m : Int), x)
      have ew2 : wcs s2.pend ++ wc ((m : Int), x) = wcs s2.pend ++ [.int .i64 (m : Int), .string x] := rfl
      rw [ew2] at ew
      rw [ew, hs2p] at M5
      obtain ⟨D5, E5⟩ := disk_pend D2a.out (.slice A5 (s2.pend.length + 1) c5) (s.pend ++ [((m : Int), x)])
      rw [hs2p] at D5 E5
      have R := Aside0.mk (⟨_, M5, D5, else_trans (else_trans E1.out E2a.out) E5, B4.setCell (p := ⟨g, 2, none⟩) (by exact hbg) _⟩ : ∃ L', Many base L' N (w4.setCell ⟨g, 2, none⟩ (.slice A5 (s.pend.length + 1) c5)) ∧ Disk L' i g { s2 with pend := s.pend ++ [((m : Int), x)] } ∧ Else L L' i ∧ Below base _ (w4.setCell ⟨g, 2, none⟩ (.slice A5 (s.pend.length + 1) c5)))
      have HR := Aside0.mk hr
      clear M4 M5 D5 E5 ew hr hv3 B4
      go_wp2_with (first
        | ((with_reducible refine gate_dst (N := 41) rfl ?_); go_loud (refine Kd.event_run rfl (exec_append (t := 71) (.tmp 36) (.tmp 40) rfl rfl _ _ rfl rfl HR.out) ?_)))
      go_ret
      exact ⟨by rw [E.out]; rfl, by rw [E.out, Int.toNat_natCast]; rw [hfin.out] at R; first | exact R.out | (rw [hs2p]; exact R.out)⟩
end Go.Proofs.Ytfagljigaippiaa.Dk
