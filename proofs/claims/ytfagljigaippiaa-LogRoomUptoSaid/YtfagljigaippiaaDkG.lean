/- Chapter 7 (the disk): On, Copy, New. -/
import Derived.Test.YtfagljigaippiaaDkF
import Derived.Test.YtfagljigaippiaaX14
namespace Go.Proofs.Ytfagljigaippiaa.Dk
open Go.RowKit Go.Maps Go.Proofs.Ytfagljigaippiaa.X Go.Proofs.YtfagljigaippiaaW.PrintWords Go.Proofs.YtfagljigaippiaaW.PrintLast Go.Proofs.YtfagljigaippiaaW.PrintMore
set_option linter.unusedVariables false
set_option linter.unusedSimpArgs false

/-- What On does. -/
def onS (s : DS) : DS := if s.opn then { crashS s [] with off := false } else { s with off := false }
theorem C_nil (w : World) : Kd.C (Kd.int .i64) w none 0 [] := ⟨rfl, by decide, fun h => by cases h⟩
set_option maxHeartbeats 8000000 in
set_option maxRecDepth 100000 in
theorem on_calls {base : Nat} {L : Nat → Sl} {N i g : Nat} {s : DS} {w : World} (h : Many base L N w) (hd : Disk L i g s) (hi : i + 4 ≤ N) (hbase : base ≤ w.heap.size) (hp : s.pend.length ≤ 549755813888) (hsl : s.safe.length ≤ 549755813888) (hok : ∀ p ∈ s.pend, 0 ≤ p.1 ∧ p.1 < s.safe.length) :
    Calls Try.prog 21 #[.pointer (some ⟨g, 0, none⟩)] w fun e w' => e = .returned (.tuple #[]) ∧ ∃ L', Many base L' N w' ∧ Disk L' i g (onS s) ∧ Else L L' i ∧ Below base w w' := by
  obtain ⟨_, _, _, _, h4, h5, hb, hfz⟩ := disk_cells h hd hi
  have HCR := crash_calls none 0 [] (C_nil w) (by decide) (fun a ha => by cases ha) h hd hi hbase hp hsl hok
  replace HCR : Calls Try.prog 20 #[.pointer (some ⟨g, 0, none⟩), .slice none 0 0] w (fun e w' => e = .returned (.tuple #[]) ∧ ∃ L', Many base L' N w' ∧ Disk L' i g (crashS s []) ∧ Else L L' i ∧ Below base w w') := HCR
  have HM := Aside0.mk h
  have HD := Aside0.mk hd
  have hz4 := hfz 4 (by decide)
  clear h hd hok hfz
  go_enter Try.func21, Try.ntmps21
  cases ho : s.opn with
  | true =>
    rw [ho] at h5
    have E : Aside0 (onS s = { crashS s [] with off := false }) := ⟨by unfold onS; rw [ho]; rfl⟩
    go_wp2_with (go_at_call 20; (with_reducible refine HCR.mono ?_); rintro e w1 ⟨rfl, L1, m1, d1, e1, b1⟩; have M1 := Aside0.mk m1; have D1 := Aside0.mk d1; have E1 := Aside0.mk e1; have B1 := Aside0.mk b1; have y4 := (disk_cells m1 d1 hi).2.2.2.2.1; have z4 := (disk_cells m1 d1 hi).2.2.2.2.2.2.2 4 (by decide); clear m1 d1 e1 b1)
    go_end0
    obtain ⟨L2, m2, d2, e2⟩ := disk_set M1.out D1.out hi 4 (.bool false) { crashS s [] with off := false } ⟨rfl, rfl, rfl⟩ (fun _ _ _ => rfl)
    exact ⟨rfl, L2, m2, by rw [E.out]; exact d2, else_trans E1.out e2, B1.out.setCell (by exact hb) _⟩
  | false =>
    rw [ho] at h5
    have E : Aside0 (onS s = { s with off := false }) := ⟨by unfold onS; rw [ho]; rfl⟩
    go_wp2
    go_end0
    obtain ⟨L2, m2, d2, e2⟩ := disk_set HM.out HD.out hi 4 (.bool false) { s with off := false } ⟨rfl, rfl, rfl⟩ (fun _ _ _ => rfl)
    exact ⟨rfl, L2, m2, by rw [E.out]; exact d2, e2, (below_refl_at _ base).setCell (by exact hb) _⟩
/-- A sector of zeros. -/
def Z : ByteArray := ⟨(Lib.repeatL [0] 512).toArray⟩
def freshS (n : Nat) : DS := { seen := List.replicate n Z, safe := List.replicate n Z, pend := [], fall := 0, off := false, opn := false }
theorem repeat_zero (w : World) : Calls Try.prog 30 #[.string ⟨#[0]⟩, .int .i64 512] w fun e w' => e = .returned (.string Z) ∧ Below w.heap.size w w' := strings_Repeat.calls ⟨#[0]⟩ 512 Z w (by unfold strings_Repeat.f; rw [if_pos (by decide)]; rfl)
theorem infoS : (Try.prog.info? 9).map (fun i => (i.zero, i.size, i.bytes)) = some (some (.string ByteArray.empty), 1, 16) := by kernel_rfl
theorem ssl_snoc (v : Value) (xs : List ByteArray) (x : ByteArray) : (⟨v, 9, 1, xs.length + 1, xs.map Value.string ++ [.string x]⟩ : Sl) = ssl v (xs ++ [x]) := by
  unfold ssl
  rw [List.length_append, List.map_append]; rfl
theorem disk_safe_new {L : Nat → Sl} {i g : Nat} {s : DS} (hd : Disk L i g s) (v' : Value) (xs : List ByteArray) : Disk (upd (upd L (i + 2) (ssl v' xs)) i (osl g 73 ([(L (i + 1)).v, (L (i + 2)).v, (L (i + 3)).v, .int .i64 s.fall, .bool s.off, .bool s.opn].set 1 v'))) i g { s with safe := xs } ∧ Else L (upd (upd L (i + 2) (ssl v' xs)) i (osl g 73 ([(L (i + 1)).v, (L (i + 2)).v, (L (i + 3)).v, .int .i64 s.fall, .bool s.off, .bool s.opn].set 1 v'))) i := by
  obtain ⟨h0, h1, h2, h3⟩ := hd
  refine ⟨⟨?_, ?_, ?_, ?_⟩, fun j hj => by rw [upd_ne (by omega), upd_ne (by omega)]⟩
  · rw [upd_at, upd_ne (by omega), upd_ne (by omega), upd_ne (by omega), upd_at, upd_ne (by omega), upd_ne (by omega)]; rfl
  · rw [upd_ne (by omega), upd_ne (by omega)]; exact h1
  · rw [upd_ne (by omega), upd_at]; rfl
  · rw [upd_ne (by omega), upd_ne (by omega)]; exact h3
/-- A disk's object and its three rows are added. -/
theorem many_disk {base : Nat} {L : Nat → Sl} {N : Nat} {w : World} (h : Many base L N w) (hbase : base ≤ w.heap.size) : ∃ L', Many base L' (N + 4) (w.alloc (.cells #[.slice none 0 0, .slice none 0 0, .slice none 0 0, .int .i64 0, .bool false, .bool false] 73)) ∧ Disk L' N w.heap.size { seen := [], safe := [], pend := [], fall := 0, off := false, opn := false } ∧ ∀ j, j < N → L' j = L j := by
  have hal := below_alloc (Below.refl w.heap.size w) (.cells #[.slice none 0 0, .slice none 0 0, .slice none 0 0, .int .i64 0, .bool false, .bool false] 73)
  have m1 := many_add h (osl w.heap.size 73 [.slice none 0 0, .slice none 0 0, .slice none 0 0, .int .i64 0, .bool false, .bool false]) hal (by
    refine ⟨rfl, .inr ⟨w.heap.size, 6, _, rfl, hbase, blk_new _ _, Nat.le_refl _, by decide, rfl, rfl⟩⟩) (fun k hk => by
    have : w.heap.size = k := by simpa [osl, Value.ownBlock] using hk
    omega)
  have m2 := many_add m1 (ssl (.slice none 0 0) []) (Below.refl _ _) (World.ownsRow_nil _ base 9 1) (fun k hk => by simp [ssl, Value.ownBlock] at hk)
  have m3 := many_add m2 (ssl (.slice none 0 0) []) (Below.refl _ _) (World.ownsRow_nil _ base 9 1) (fun k hk => by simp [ssl, Value.ownBlock] at hk)
  have m4 := many_add m3 (wsl 96 (.slice none 0 0) []) (Below.refl _ _) (World.ownsRow_nil _ base 96 2) (fun k hk => by simp [wsl, Value.ownBlock] at hk)
  refine ⟨_, m4, ⟨?_, ?_, ?_, ?_⟩, fun j hj => by rw [upd_ne (by omega), upd_ne (by omega), upd_ne (by omega), upd_ne (by omega)]⟩
  · have e0 : ∀ X3 X2 X1 X0 : Sl, upd (upd (upd (upd L N X0) (N + 1) X1) (N + 1 + 1) X2) (N + 1 + 1 + 1) X3 N = X0 := fun X3 X2 X1 X0 => by rw [upd_ne (by omega), upd_ne (by omega), upd_ne (by omega), upd_at]
    have e1 : ∀ X3 X2 X1 X0 : Sl, upd (upd (upd (upd L N X0) (N + 1) X1) (N + 1 + 1) X2) (N + 1 + 1 + 1) X3 (N + 1) = X1 := fun X3 X2 X1 X0 => by rw [upd_ne (by omega), upd_ne (by omega), upd_at]
    have e2 : ∀ X3 X2 X1 X0 : Sl, upd (upd (upd (upd L N X0) (N + 1) X1) (N + 1 + 1) X2) (N + 1 + 1 + 1) X3 (N + 2) = X2 := fun X3 X2 X1 X0 => by rw [upd_ne (by omega), upd_at]
    have e3 : ∀ X3 X2 X1 X0 : Sl, upd (upd (upd (upd L N X0) (N + 1) X1) (N + 1 + 1) X2) (N + 1 + 1 + 1) X3 (N + 3) = X3 := fun X3 X2 X1 X0 => upd_at _ _ _
    rw [e0, e1, e2, e3]; rfl
  · rw [upd_ne (by omega), upd_ne (by omega), upd_at]; rfl
  · rw [upd_ne (by omega), upd_at]; rfl
  · rw [upd_at]; rfl
set_option maxHeartbeats 8000000 in
set_option maxRecDepth 100000 in
theorem new_none {w : World} (n : Int) (hn : ¬ (1 ≤ n ∧ n ≤ 8192)) : Calls Try.prog 8 #[.int .i64 n] w fun e w' => e = .returned (.tuple #[.pointer none, .int .i64 1]) ∧ w' = w := by
  go_enter Try.func8, Try.ntmps8
  by_cases h1 : n < 1
  · have q1 : (n < 1) = True := eq_true h1
    go_wp2
    go_ret2
    exact ⟨rfl, rfl⟩
  · have q1 : (n < 1) = False := eq_false h1
    have q2 : (8192 < n) = True := eq_true (by omega)
    go_wp2
    go_ret2
    exact ⟨rfl, rfl⟩
set_option maxHeartbeats 8000000 in
set_option maxRecDepth 100000 in
theorem new_calls {base : Nat} {L : Nat → Sl} {N : Nat} {w : World} (n : Nat) (h1 : 1 ≤ n) (h2 : n ≤ 8192) (h : Many base L N w) (hbase : base ≤ w.heap.size) :
    Calls Try.prog 8 #[.int .i64 (n : Int)] w fun e w' => ∃ g L', e = .returned (.tuple #[.pointer (some ⟨g, 0, none⟩), .int .i64 0]) ∧ Many base L' (N + 4) w' ∧ Disk L' N g (freshS n) ∧ (∀ j, j < N → L' j = L j) ∧ Below base w w' := by
  have HM := Aside0.mk h
  have HBS := Aside0.mk hbase
  clear h hbase
  have q1 : ((n : Int) < 1) = False := eq_false (by omega)
  have q2 : ((8192 : Int) < (n : Int)) = False := eq_false (by omega)
  obtain ⟨z, hz⟩ : ∃ z, z = Z := ⟨_, rfl⟩
  have HZ : ∀ W : World, Calls Try.prog 30 #[.string ⟨#[0]⟩, .int .i64 512] W fun e w' => e = .returned (.string z) ∧ Below W.heap.size W w' := fun W => by rw [hz]; exact repeat_zero W
  have HZE := Aside0.mk hz
  clear hz
  go_enter Try.func8, Try.ntmps8
  go_wp2_with (go_at_call 30; (with_reducible refine (HZ _).mono ?_); rintro e w1 ⟨rfl, hb⟩; have M1 := Aside0.mk (many_below HM.out hb); have B1 := Aside0.mk (below_then (below_refl_at w base) HBS.out hb); clear hb)
  have hal := below_alloc (Below.refl w1.heap.size w1) (.cells #[.slice none 0 0, .slice none 0 0, .slice none 0 0, .int .i64 0, .bool false, .bool false] 73)
  have hb1 := Nat.le_trans HBS.out B1.out.size
  obtain ⟨L2, m2, d2, e2⟩ := many_disk M1.out hb1
  have M2 := Aside0.mk m2
  have B2 := Aside0.mk (below_then B1.out hb1 hal)
  clear m2 hal
  obtain ⟨g, hg⟩ : ∃ g, g = w1.heap.size := ⟨_, rfl⟩
  have PG : (Value.pointer (some ⟨w1.heap.size, 0, none⟩)) = .pointer (some ⟨g, 0, none⟩) := by rw [hg]
  rw [PG]
  rw [← hg] at d2 hb1
  have D2 := Aside0.mk d2
  have E2 := Aside0.mk e2
  generalize w1.alloc (.cells #[.slice none 0 0, .slice none 0 0, .slice none 0 0, .int .i64 0, .bool false, .bool false] 73) = w2 at M2 B2 ⊢
  clear hg PG d2 e2 M1 B1
  go_loopw [16] (fun v16 W => ∃ (k : Nat) (L3 : Nat → Sl), k ≤ n ∧ v16 = .int .i64 k ∧ Aside0 (Many base L3 (N + 4) W) ∧ Aside0 (Disk L3 N g { seen := List.replicate k z, safe := [], pend := [], fall := 0, off := false, opn := false }) ∧ Aside0 (∀ j, j < N → L3 j = L j) ∧ Aside0 (Below base w W)) (fun v16 _ => n - (intOf v16).toNat)
  case atStart => exact ⟨0, L2, Nat.zero_le _, rfl, M2, D2, E2, B2⟩
  case round =>
    clear M2 D2 E2 B2
    obtain ⟨k, L3, hk, rfl, M3, D3, E3, B3⟩ := hrel
    have hB3 := Nat.le_trans HBS.out B3.out.size
    by_cases hlt : k < n
    · have q3 : ((k : Int) < (n : Int)) = True := eq_true (by omega)
      obtain ⟨⟨A0, c0, h0, hv0, _⟩, _, _, _, _, _, _, hfz⟩ := disk_cells M3.out D3.out (by omega)
      have hz0 := hfz 0 (by decide)
      rw [hv0.symm] at h0
      obtain ⟨v', w4, hr, M4, B4⟩ := many_grow 22 9 1 16 (.string ByteArray.empty) Try.underlying22 infoS rfl (by decide) (by decide) M3.out (N + 1) (by omega) _ _ _ D3.out.2.1 [.string z] rfl (fun q hq => by rw [List.mem_singleton.1 hq]; rfl) B3.out hB3 (by rw [List.length_replicate]; omega)
      obtain ⟨A5, c5, e5, _⟩ := many_val M4 (N + 1) (by omega)
      rw [upd_at] at e5
      obtain ⟨m5, hm5⟩ : ∃ m5, m5 = (List.replicate k z).length + 1 := ⟨_, rfl⟩
      have e5' : v' = .slice A5 m5 c5 := by rw [hm5]; exact e5
      subst e5'
      obtain ⟨h4', hz4, _⟩ := obj_cell M4 N (by omega) g 73 _ (by rw [upd_ne (by omega)]; exact D3.out.1) 0 (by show 0 < 6; decide)
      have M5 := obj_set M4 N (by omega) g 73 _ (by rw [upd_ne (by omega)]; exact D3.out.1) 0 (.slice A5 m5 c5)
      rw [ssl_snoc] at M5
      obtain ⟨D5, E5⟩ := disk_seen_new D3.out (.slice A5 m5 c5) (List.replicate k z ++ [z])
      have hrp : List.replicate k z ++ [z] = List.replicate (k + 1) z := (List.replicate_succ').symm
      rw [hrp] at M5 D5 E5
      have HR := Aside0.mk hr
      have M5a := Aside0.mk M5
      have D5a := Aside0.mk D5
      have E5a : Aside0 (∀ j, j < N → _ = L j) := ⟨fun j hj => (E5 j (.inl hj)).trans (E3.out j hj)⟩
      have B5 := Aside0.mk (B4.setCell (p := ⟨g, 0, none⟩) (by exact hb1) (.slice A5 m5 c5))
      clear M4 M5 D5 E5 hr hv0 B4 hm5 e5 hrp
      go_wp2_with (first
        | ((with_reducible refine gate_dst (N := 25) rfl ?_); go_loud (refine Kd.event_run rfl (exec_append (t := 22) (.tmp 22) (.tmp 24) rfl rfl _ _ rfl rfl HR.out) ?_)))
      go_roundw
      case rel => exact ⟨k + 1, _, by omega, by go_num, M5a, D5a, E5a, B5⟩
      case measure => simp [intOf]; omega
    · have q3 : ((k : Int) < (n : Int)) = False := eq_false (by omega)
      obtain rfl : k = n := by omega
      obtain ⟨l, hl⟩ : ∃ l, l = List.replicate k z := ⟨_, rfl⟩
      have hll : l.length = k := by rw [hl, List.length_replicate]
      have HLE := Aside0.mk hl
      rw [← hl] at D3
      clear hl
      obtain ⟨⟨A0, c0, h0, hv0, _⟩, _⟩ := disk_cells M3.out D3.out (by omega)
      replace h0 : _ = some (Value.slice A0 l.length c0) := h0
      replace hv0 : (L3 (N + 1)).v = .slice A0 l.length c0 := hv0
      have HCL := clone_calls M3.out (t := N + 1) (by omega) D3.out.2.1 (by show l.length ≤ _; omega)
      rw [hv0] at HCL
      clear hll
      go_wp2_with (go_at_call 31; (with_reducible refine HCL.mono ?_); rintro e w6 ⟨v6, rfl, hr6, hb6⟩; have M6 := many_put2 M3.out (N + 2) (by omega) (ssl v6 l) hb6 (own_lower hr6 hB3) (fun k hk => (hr6.lt k hk).1); obtain ⟨A6, c6, e6, _⟩ := many_val M6 (N + 2) (by omega); rw [upd_at] at e6; have e6' : v6 = .slice A6 l.length c6 := e6; subst e6'; obtain ⟨_, y1, _, _, _, _, HO⟩ := obj6 M6 N (by omega) g 73 _ _ _ _ _ _ (by rw [upd_ne (by omega)]; exact D3.out.1); have z1 := HO 1 (by decide); have M6a := Aside0.mk M6; have B6 := Aside0.mk (below_then B3.out hB3 hb6); clear M6 e6 hr6 hb6 HO)
      have M7 := obj_set M6a.out N (by omega) g 73 _ (by rw [upd_ne (by omega)]; exact D3.out.1) 1 (.slice A6 l.length c6)
      obtain ⟨D7, E7⟩ := disk_safe_new D3.out (.slice A6 l.length c6) l
      go_ret2
      exact ⟨g, _, rfl, M7, by unfold freshS; rw [← HZE.out, ← HLE.out]; exact D7, fun j hj => (E7 j (.inl hj)).trans (E3.out j hj), B6.out.setCell (by exact hb1) _⟩
end Go.Proofs.Ytfagljigaippiaa.Dk
