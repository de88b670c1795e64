/- Chapter 7 (the disk): Copy. -/
import Derived.Test.YtfagljigaippiaaDkG
namespace Go.Proofs.Ytfagljigaippiaa.Dk
open Go.RowKit Go.Maps Go.Proofs.Ytfagljigaippiaa.X Go.Proofs.YtfagljigaippiaaW.PrintWords Go.Proofs.YtfagljigaippiaaW.PrintLast Go.Proofs.YtfagljigaippiaaW.PrintMore
set_option linter.unusedVariables false
set_option linter.unusedSimpArgs false

def dcp.T2 : Bool × List (List Nat × List Nat) := (true, [([], []), ([0], [0]), ([1], [1]), ([2], [2]), ([3], [3]), ([], []), ([5], [5]), ([6], [6]), ([7], [7]), ([8, 4], [8]), ([], []), ([10], [10]), ([11], [11]), ([12], [12]), ([13, 9], [13]), ([0, 1, 2, 3, 4, 8, 9, 13, 14], []), ([15, 4, 14, 0, 1, 2, 3, 4, 8, 9, 13, 14], [4, 15]), ([0, 1, 2, 3, 4, 5, 6, 7, 8, 9, 13, 14, 15, 16], []), ([17, 9, 16, 0, 1, 2, 3, 4, 5, 6, 7, 8, 9, 13, 14, 15, 16], [9, 17]), ([0, 1, 2, 3, 4, 5, 6, 7, 8, 9, 10, 11, 12, 13, 14, 15, 16, 17, 18], []), ([19, 14, 18, 0, 1, 2, 3, 4, 5, 6, 7, 8, 9, 10, 11, 12, 13, 14, 15, 16, 17, 18], [14, 19])])
def dcp.B2 : List Nat := [0, 1, 3, 7, 15, 0, 32, 96, 224, 511, 0, 1024, 3072, 7168, 16383, 32767, 65535, 131071, 262143, 524287, 1048575]
theorem dcp.tab2 : rtab .any (opsOf Try.f19 2) = dcp.T2 := by kernel_rfl
theorem dcp.bits2 : waitsOk dcp.T2.2 dcp.B2 = true := by kernel_rfl
theorem info22s : (Try.prog.info? 22).map (·.size) = some 1 := by kernel_rfl
theorem info71s : (Try.prog.info? 71).map (·.size) = some 1 := by kernel_rfl
theorem obj_blk {base : Nat} {L : Nat → Sl} {N : Nat} {W : World} (h : Many base L N W) (t : Nat) (ht : t < N) (g T : Nat) (cs : List Value) (hL : L t = osl g T cs) (j : Nat) (hj : j < cs.length) : ∃ cur, W.heap[g]? = some (.cells cur T (0, 0)) ∧ j < cur.size := by
  have ho := h.1 t ht
  unfold Sl.here at ho
  rw [hL] at ho
  obtain ⟨h0, ⟨e, _⟩ | ⟨g', cap', cur, e, hg, hh, hc1, hc2, hsz, htk⟩⟩ := ho
  · cases e
  have e2 : g = g' := by
    have : (Value.slice (some ⟨g, 0, none⟩) cs.length cs.length) = .slice (some ⟨g', 0, none⟩) cs.length cap' := e
    injection this with a b c
    injection a with a
    injection a with a
  subst e2
  have hcap : cs.length ≤ cap' := hc1
  have hs : cur.size = cap' * 1 := hsz
  exact ⟨cur, hh, by omega⟩
set_option maxHeartbeats 8000000 in
set_option maxRecDepth 100000 in
theorem copy_calls {base : Nat} {L : Nat → Sl} {N i g : Nat} {s : DS} {w : World} (h : Many base L N w) (hd : Disk L i g s) (hi : i + 4 ≤ N) (hbase : base ≤ w.heap.size) (h1 : s.seen.length ≤ 549755813888) (h2 : s.safe.length ≤ 549755813888) (h3 : s.pend.length ≤ 549755813888) :
    Calls Try.prog 19 #[.pointer (some ⟨g, 0, none⟩)] w fun e w' => ∃ g' L', e = .returned (.pointer (some ⟨g', 0, none⟩)) ∧ Many base L' (N + 4) w' ∧ Disk L' N g' s ∧ (∀ j, j < N → L' j = L j) ∧ Below base w w' := by
  obtain ⟨⟨A1, c1, k1, v1e, _⟩, ⟨A2, c2, k2, v2e, _⟩, ⟨A3, c3, k3, v3e, _⟩, k4, k5, k6, _, _⟩ := disk_cells h hd hi
  have HM := Aside0.mk h
  have HD := Aside0.mk hd
  have HBS := Aside0.mk hbase
  have V1 := Aside0.mk v1e
  have V2 := Aside0.mk v2e
  have V3 := Aside0.mk v3e
  have J1 := Aside0.mk k1
  have J2 := Aside0.mk k2
  have J3 := Aside0.mk k3
  clear h hd v1e v2e v3e
  go_enter Try.func19, Try.ntmps19
  go_upto_region 2 with (fail)
  clear k1 k2 k3 k4 k5 k6
  obtain ⟨cs, hcs0⟩ : ∃ cs : List Value, cs = [.slice A1 s.seen.length c1, .slice A2 s.safe.length c2, .slice A3 s.pend.length c3, .int .i64 s.fall, .bool s.off, .bool s.opn] := ⟨_, rfl⟩
  have hal := below_alloc (Below.refl w.heap.size w) (.cells #[.slice A1 s.seen.length c1, .slice A2 s.safe.length c2, .slice A3 s.pend.length c3, .int .i64 s.fall, .bool s.off, .bool s.opn] 73)
  have m5 := many_add HM.out (osl w.heap.size 73 [.slice A1 s.seen.length c1, .slice A2 s.safe.length c2, .slice A3 s.pend.length c3, .int .i64 s.fall, .bool s.off, .bool s.opn]) hal (by
    refine ⟨rfl, .inr ⟨w.heap.size, 6, _, rfl, HBS.out, blk_new _ _, Nat.le_refl _, by decide, rfl, rfl⟩⟩) (fun k hk => by
    have : w.heap.size = k := by simpa [osl, Value.ownBlock] using hk
    omega)
  have B5 := Aside0.mk (below_then (below_refl_at w base) HBS.out hal)
  have hB5 := Nat.le_trans HBS.out hal.size
  have K1 := Aside0.mk (below_cell' hal J1.out)
  have K2 := Aside0.mk (below_cell' hal J2.out)
  have K3 := Aside0.mk (below_cell' hal J3.out)
  obtain ⟨g5, hg5⟩ : ∃ g5, g5 = w.heap.size := ⟨_, rfl⟩
  have P5 : (Value.pointer (some ⟨w.heap.size, 0, none⟩)) = .pointer (some ⟨g5, 0, none⟩) := by rw [hg5]
  rw [P5]
  rw [← hg5] at m5
  have hgb : base ≤ g5 := by rw [hg5]; exact HBS.out
  obtain ⟨L5, hL5⟩ : ∃ L5, L5 = upd L N (osl g5 73 [.slice A1 s.seen.length c1, .slice A2 s.safe.length c2, .slice A3 s.pend.length c3, .int .i64 s.fall, .bool s.off, .bool s.opn]) := ⟨_, rfl⟩
  rw [← hL5] at m5
  have M5 := Aside0.mk m5
  have HO5 : Aside0 (L5 N = osl g5 73 [.slice A1 s.seen.length c1, .slice A2 s.safe.length c2, .slice A3 s.pend.length c3, .int .i64 s.fall, .bool s.off, .bool s.opn]) := ⟨by rw [hL5, upd_at]⟩
  have HJ5 : Aside0 (∀ j, j < N → L5 j = L j) := ⟨fun j hj => by rw [hL5, upd_ne (by omega)]⟩
  generalize w.alloc (.cells #[.slice A1 s.seen.length c1, .slice A2 s.safe.length c2, .slice A3 s.pend.length c3, .int .i64 s.fall, .bool s.off, .bool s.opn] 73) = w5 at M5 B5 hB5 K1 K2 K3 ⊢
  have e1 : L5 (i + 1) = ssl (L5 (i + 1)).v s.seen := by rw [HJ5.out (i + 1) (by omega)]; exact HD.out.2.1
  have e2 : L5 (i + 2) = ssl (L5 (i + 2)).v s.safe := by rw [HJ5.out (i + 2) (by omega)]; exact HD.out.2.2.1
  have e3 : L5 (i + 3) = wsl 96 (L5 (i + 3)).v s.pend := by rw [HJ5.out (i + 3) (by omega)]; exact HD.out.2.2.2
  have f1 : (L5 (i + 1)).v = .slice A1 s.seen.length c1 := by rw [HJ5.out (i + 1) (by omega)]; exact V1.out
  have f2 : (L5 (i + 2)).v = .slice A2 s.safe.length c2 := by rw [HJ5.out (i + 2) (by omega)]; exact V2.out
  have f3 : (L5 (i + 3)).v = .slice A3 s.pend.length c3 := by rw [HJ5.out (i + 3) (by omega)]; exact V3.out
  have HC1 : ∀ W : World, Many base L5 (N + 1) W → Calls Try.prog 31 #[.slice A1 s.seen.length c1] W fun e w' => ∃ v', e = .returned v' ∧ w'.ownsRow W.heap.size 9 1 v' s.seen.length (s.seen.map Value.string) ∧ Below W.heap.size W w' := fun W hW => by
    have := clone_calls hW (t := i + 1) (by omega) e1 (by omega)
    rw [f1] at this; exact this
  have HC2 : ∀ W : World, Many base L5 (N + 1) W → Calls Try.prog 31 #[.slice A2 s.safe.length c2] W fun e w' => ∃ v', e = .returned v' ∧ w'.ownsRow W.heap.size 9 1 v' s.safe.length (s.safe.map Value.string) ∧ Below W.heap.size W w' := fun W hW => by
    have := clone_calls hW (t := i + 2) (by omega) e2 (by omega)
    rw [f2] at this; exact this
  have HC3 : ∀ W : World, Many base L5 (N + 1) W → Calls Try.prog 48 #[.slice A3 s.pend.length c3] W fun e w' => ∃ v', e = .returned v' ∧ w'.ownsRow W.heap.size 96 2 v' s.pend.length (wcs s.pend) ∧ Below W.heap.size W w' := fun W hW => by
    have := clonew_calls hW (t := i + 3) (by omega) e3 (by omega)
    rw [f3] at this; exact this
  clear e1 e2 e3 f1 f2 f3 hL5 P5 hg5 m5 hal hcs0 cs
  refine start_ (n := 21) (S := fun W => Below w5.heap.size w5 W) (ds := [16, 18, 20]) #[false, false, false, false, false, false, false, false, false, false, false, false, false, false, false, false, false, false, false, false, false] (by kernel_rfl) rfl rfl (below_drew1 (Below.refl _ _)) (fun hHeld => ?_); refine with_tabW dcp.tab2 dcp.bits2 (fun HT_ HW_ => ?_)
  generalize World.drew _ = wR at hHeld ⊢
  refine pure_ (i := 0) (N := some 7) (v := ?_) (a' := ?_) #[true, false, false, false, false, false, false, false, false, false, false, false, false, false, false, false, false, false, false, false, false] rfl rfl (any_of HT_.out (by kernel_rfl)) (fun _ _ _ h => h) (Or.inl ⟨by rfl, ?_⟩) ?_ ?_
  rotate_left
  · intro w'
    go_simp
    with_reducible rfl
  rotate_left
  · simp only [Act.put, List.setIfInBounds_toArray, List.set_cons_zero, List.set_cons_succ, i64_w, i32_w]
    rfl
  refine pure_ (i := 1) (N := some 8) (v := ?_) (a' := ?_) #[true, true, false, false, false, false, false, false, false, false, false, false, false, false, false, false, false, false, false, false, false] rfl rfl (any_of HT_.out (by kernel_rfl)) (fun _ _ _ h => h) (Or.inl ⟨by rfl, ?_⟩) ?_ ?_
  rotate_left
  · intro w'
    go_simp
    with_reducible rfl
  rotate_left
  · simp only [Act.put, List.setIfInBounds_toArray, List.set_cons_zero, List.set_cons_succ, i64_w, i32_w]
    rfl
  refine pure_ (i := 2) (N := some 9) (v := ?_) (a' := ?_) #[true, true, true, false, false, false, false, false, false, false, false, false, false, false, false, false, false, false, false, false, false] rfl rfl (any_of HT_.out (by kernel_rfl)) (fun _ _ _ h => h) (Or.inl ⟨by rfl, ?_⟩) ?_ ?_
  rotate_left
  · intro w'
    go_simp
    with_reducible rfl
  rotate_left
  · simp only [Act.put, List.setIfInBounds_toArray, List.set_cons_zero, List.set_cons_succ, i64_w, i32_w]
    rfl
  refine take_ (i := 3) (N := some 10) (v := ?_) (a' := ?_) #[true, true, true, true, false, false, false, false, false, false, false, false, false, false, false, false, false, false, false, false, false] rfl rfl (take_ofW HT_.out HW_.out (by kernel_rfl)) (fun _ _ _ h => h) (Or.inl ⟨by rfl, ?_⟩) hHeld ?_ ?_
  rotate_left
  · rintro w' s0
    have hK := below_cell' s0 K1.out
    go_simp
    with_reducible rfl
  rotate_left
  · simp only [Act.put, List.setIfInBounds_toArray, List.set_cons_zero, List.set_cons_succ, i64_w, i32_w]
    rfl
  refine pure_ (i := 5) (N := some 12) (v := ?_) (a' := ?_) #[true, true, true, true, false, true, false, false, false, false, false, false, false, false, false, false, false, false, false, false, false] rfl rfl (any_of HT_.out (by kernel_rfl)) (fun _ _ _ h => h) (Or.inl ⟨by rfl, ?_⟩) ?_ ?_
  rotate_left
  · intro w'
    go_simp
    with_reducible rfl
  rotate_left
  · simp only [Act.put, List.setIfInBounds_toArray, List.set_cons_zero, List.set_cons_succ, i64_w, i32_w]
    rfl
  refine pure_ (i := 6) (N := some 13) (v := ?_) (a' := ?_) #[true, true, true, true, false, true, true, false, false, false, false, false, false, false, false, false, false, false, false, false, false] rfl rfl (any_of HT_.out (by kernel_rfl)) (fun _ _ _ h => h) (Or.inl ⟨by rfl, ?_⟩) ?_ ?_
  rotate_left
  · intro w'
    go_simp
    with_reducible rfl
  rotate_left
  · simp only [Act.put, List.setIfInBounds_toArray, List.set_cons_zero, List.set_cons_succ, i64_w, i32_w]
    rfl
  refine pure_ (i := 7) (N := some 14) (v := ?_) (a' := ?_) #[true, true, true, true, false, true, true, true, false, false, false, false, false, false, false, false, false, false, false, false, false] rfl rfl (any_of HT_.out (by kernel_rfl)) (fun _ _ _ h => h) (Or.inl ⟨by rfl, ?_⟩) ?_ ?_
  rotate_left
  · intro w'
    go_simp
    with_reducible rfl
  rotate_left
  · simp only [Act.put, List.setIfInBounds_toArray, List.set_cons_zero, List.set_cons_succ, i64_w, i32_w]
    rfl
  refine take_ (i := 8) (N := some 15) (v := ?_) (a' := ?_) #[true, true, true, true, false, true, true, true, true, false, false, false, false, false, false, false, false, false, false, false, false] rfl rfl (take_ofW HT_.out HW_.out (by kernel_rfl)) (fun _ _ _ h => h) (Or.inl ⟨by rfl, ?_⟩) hHeld ?_ ?_
  rotate_left
  · rintro w' s0
    have hK := below_cell' s0 K2.out
    go_simp
    with_reducible rfl
  rotate_left
  · simp only [Act.put, List.setIfInBounds_toArray, List.set_cons_zero, List.set_cons_succ, i64_w, i32_w]
    rfl
  refine pure_ (i := 10) (N := some 17) (v := ?_) (a' := ?_) #[true, true, true, true, false, true, true, true, true, false, true, false, false, false, false, false, false, false, false, false, false] rfl rfl (any_of HT_.out (by kernel_rfl)) (fun _ _ _ h => h) (Or.inl ⟨by rfl, ?_⟩) ?_ ?_
  rotate_left
  · intro w'
    go_simp
    with_reducible rfl
  rotate_left
  · simp only [Act.put, List.setIfInBounds_toArray, List.set_cons_zero, List.set_cons_succ, i64_w, i32_w]
    rfl
  refine pure_ (i := 11) (N := some 18) (v := ?_) (a' := ?_) #[true, true, true, true, false, true, true, true, true, false, true, true, false, false, false, false, false, false, false, false, false] rfl rfl (any_of HT_.out (by kernel_rfl)) (fun _ _ _ h => h) (Or.inl ⟨by rfl, ?_⟩) ?_ ?_
  rotate_left
  · intro w'
    go_simp
    with_reducible rfl
  rotate_left
  · simp only [Act.put, List.setIfInBounds_toArray, List.set_cons_zero, List.set_cons_succ, i64_w, i32_w]
    rfl
  refine pure_ (i := 12) (N := some 19) (v := ?_) (a' := ?_) #[true, true, true, true, false, true, true, true, true, false, true, true, true, false, false, false, false, false, false, false, false] rfl rfl (any_of HT_.out (by kernel_rfl)) (fun _ _ _ h => h) (Or.inl ⟨by rfl, ?_⟩) ?_ ?_
  rotate_left
  · intro w'
    go_simp
    with_reducible rfl
  rotate_left
  · simp only [Act.put, List.setIfInBounds_toArray, List.set_cons_zero, List.set_cons_succ, i64_w, i32_w]
    rfl
  refine take_ (i := 13) (N := some 20) (v := ?_) (a' := ?_) #[true, true, true, true, false, true, true, true, true, false, true, true, true, true, false, false, false, false, false, false, false] rfl rfl (take_ofW HT_.out HW_.out (by kernel_rfl)) (fun _ _ _ h => h) (Or.inl ⟨by rfl, ?_⟩) hHeld ?_ ?_
  rotate_left
  · rintro w' s0
    have hK := below_cell' s0 K3.out
    go_simp
    with_reducible rfl
  rotate_left
  · simp only [Act.put, List.setIfInBounds_toArray, List.set_cons_zero, List.set_cons_succ, i64_w, i32_w]
    rfl
  have hB0 := Nat.le_trans hB5 hHeld.size
  refine one_ (i := 4) (N := some 11) #[true, true, true, true, true, true, true, true, true, false, true, true, true, true, false, false, false, false, false, false, false] rfl rfl (one_of HT_.out (by kernel_rfl)) (by decide) (fun K hK => ?_)
  refine goes_ Try.func31 (by kernel_rfl) rfl #[.slice A1 s.seen.length c1] (by rfl) rfl rfl (by (try simp only [List.map_toArray, List.map_cons, List.map_nil]); first | done | rfl) ?_
  with_reducible refine (HC1 _ (many_below M5.out hHeld)).mono ?_
  rintro e wa ⟨v1, rfl, hr1, hb⟩
  refine ⟨_, rfl, ?_⟩
  have hb2 := below_then hHeld hHeld.size hb
  have Ma := many_add (many_below M5.out hHeld) (ssl v1 s.seen) hb (own_lower hr1 hB0) (fun k hk => (hr1.lt k hk).1)
  obtain ⟨Av1, cv1, ev1, _⟩ := many_val Ma (N + 1) (by omega)
  rw [upd_at] at ev1
  obtain ⟨nv1, hnv1⟩ : ∃ n, n = s.seen.length := ⟨_, rfl⟩
  have fv1 : v1 = .slice Av1 nv1 cv1 := by rw [hnv1]; exact ev1
  subst fv1
  have hB0 := Nat.le_trans hB0 hb.size
  refine hK.out _ _ hb2 (fun hHeld => ?_)
  clear hK K
  refine norm_ (a' := ?_) ?_ ?_
  rotate_left
  · show Act.put _ (some 11) _ = _
    simp only [Act.put, List.setIfInBounds_toArray, List.set_cons_zero, List.set_cons_succ, i64_w, i32_w]
    rfl
  clear hb2 hb hr1 ev1 hnv1
  refine one_ (i := 9) (N := some 16) #[true, true, true, true, true, true, true, true, true, true, true, true, true, true, false, false, false, false, false, false, false] rfl rfl (one_of HT_.out (by kernel_rfl)) (by decide) (fun K hK => ?_)
  refine goes_ Try.func31 (by kernel_rfl) rfl #[.slice A2 s.safe.length c2] (by rfl) rfl rfl (by (try simp only [List.map_toArray, List.map_cons, List.map_nil]); first | done | rfl) ?_
  with_reducible refine (HC2 _ (many_below M5.out hHeld)).mono ?_
  rintro e wb ⟨v2, rfl, hr2, hb⟩
  refine ⟨_, rfl, ?_⟩
  have hb2 := below_then hHeld hHeld.size hb
  have Mb := many_add (Ma) (ssl v2 s.safe) hb (own_lower hr2 hB0) (fun k hk => (hr2.lt k hk).1)
  obtain ⟨Av2, cv2, ev2, _⟩ := many_val Mb (N + 1 + 1) (by omega)
  rw [upd_at] at ev2
  obtain ⟨nv2, hnv2⟩ : ∃ n, n = s.safe.length := ⟨_, rfl⟩
  have fv2 : v2 = .slice Av2 nv2 cv2 := by rw [hnv2]; exact ev2
  subst fv2
  have hB0 := Nat.le_trans hB0 hb.size
  refine hK.out _ _ hb2 (fun hHeld => ?_)
  clear hK K
  refine norm_ (a' := ?_) ?_ ?_
  rotate_left
  · show Act.put _ (some 16) _ = _
    simp only [Act.put, List.setIfInBounds_toArray, List.set_cons_zero, List.set_cons_succ, i64_w, i32_w]
    rfl
  clear hb2 hb hr2 ev2 hnv2
  refine one_ (i := 14) (N := some 21) #[true, true, true, true, true, true, true, true, true, true, true, true, true, true, true, false, false, false, false, false, false] rfl rfl (one_of HT_.out (by kernel_rfl)) (by decide) (fun K hK => ?_)
  refine goes_ Try.func48 (by kernel_rfl) rfl #[.slice A3 s.pend.length c3] (by rfl) rfl rfl (by (try simp only [List.map_toArray, List.map_cons, List.map_nil]); first | done | rfl) ?_
  with_reducible refine (HC3 _ (many_below M5.out hHeld)).mono ?_
  rintro e wc ⟨v3, rfl, hr3, hb⟩
  refine ⟨_, rfl, ?_⟩
  have hb2 := below_then hHeld hHeld.size hb
  have Mc := many_add (Mb) (wsl 96 v3 s.pend) hb (own_lower hr3 hB0) (fun k hk => (hr3.lt k hk).1)
  obtain ⟨Av3, cv3, ev3, _⟩ := many_val Mc (N + 1 + 1 + 1) (by omega)
  rw [upd_at] at ev3
  obtain ⟨nv3, hnv3⟩ : ∃ n, n = s.pend.length := ⟨_, rfl⟩
  have fv3 : v3 = .slice Av3 nv3 cv3 := by rw [hnv3]; exact ev3
  subst fv3
  have hB0 := Nat.le_trans hB0 hb.size
  refine hK.out _ _ hb2 (fun hHeld => ?_)
  clear hK K
  refine norm_ (a' := ?_) ?_ ?_
  rotate_left
  · show Act.put _ (some 21) _ = _
    simp only [Act.put, List.setIfInBounds_toArray, List.set_cons_zero, List.set_cons_succ, i64_w, i32_w]
    rfl
  clear hb2 hb hr3 ev3 hnv3
  refine pure_ (i := 15) (N := some 22) (v := ?_) (a' := ?_) #[true, true, true, true, true, true, true, true, true, true, true, true, true, true, true, true, false, false, false, false, false] rfl rfl (any_of HT_.out (by kernel_rfl)) (fun _ _ _ h => h) (Or.inl ⟨by rfl, ?_⟩) ?_ ?_
  rotate_left
  · intro w'
    go_simp
    with_reducible rfl
  rotate_left
  · simp only [Act.put, List.setIfInBounds_toArray, List.set_cons_zero, List.set_cons_succ, i64_w, i32_w]
    rfl
  have hBc := below_then B5.out hB5 hHeld
  generalize hLc : upd (upd (upd L5 (N + 1) _) (N + 1 + 1) _) (N + 1 + 1 + 1) _ = Lc at Mc
  have g0 : Lc N = osl g5 73 [.slice A1 s.seen.length c1, .slice A2 s.safe.length c2, .slice A3 s.pend.length c3, .int .i64 s.fall, .bool s.off, .bool s.opn] := by rw [← hLc, upd_ne (by omega), upd_ne (by omega), upd_ne (by omega)]; exact HO5.out
  have g1 : Lc (N + 1) = ssl (.slice Av1 nv1 cv1) s.seen := by rw [← hLc, upd_ne (by omega), upd_ne (by omega), upd_at]
  have g2 : Lc (N + 2) = ssl (.slice Av2 nv2 cv2) s.safe := by rw [← hLc, upd_ne (by omega), upd_at]
  have g3 : Lc (N + 3) = wsl 96 (.slice Av3 nv3 cv3) s.pend := by rw [← hLc, upd_at]
  have gj : ∀ j, j < N → Lc j = L j := fun j hj => by rw [← hLc, upd_ne (by omega), upd_ne (by omega), upd_ne (by omega)]; exact HJ5.out j hj
  obtain ⟨cur, hcu, hcs⟩ := obj_blk Mc N (by omega) g5 73 _ g0 0 (by show 0 < 6; decide)
  refine last_ (i := 16) (N := none) #[true, true, true, true, true, true, true, true, true, true, true, true, true, true, true, true, true, false, false, false, false] rfl rfl (one_of HT_.out (by kernel_rfl)) (by decide) (fun K hK => ?_)
  rw [if_pos (by rfl)]
  refine wp_store_cell info22s (.tmp 22) (.tmp 11) rfl g5 0 cur 73 (.slice Av1 nv1 cv1) rfl rfl hcu hcs rfl ?_
  refine hK.out _ _ ?_
  clear hK K
  refine norm_ (a' := ?_) ?_ ?_
  rotate_left
  · show Act.put _ (none) _ = _
    simp only [Act.put]
    rfl
  have Md := obj_set Mc N (by omega) g5 73 _ g0 0 (.slice Av1 nv1 cv1)
  obtain ⟨cur2, hcu2, hcs2⟩ := obj_blk Md N (by omega) g5 73 _ (upd_at _ _ _) 1 (by show 1 < 6; decide)
  refine pure_ (i := 17) (N := some 23) (v := ?_) (a' := ?_) #[true, true, true, true, true, true, true, true, true, true, true, true, true, true, true, true, true, true, false, false, false] rfl rfl (any_of HT_.out (by kernel_rfl)) (fun _ _ _ h => h) (Or.inl ⟨by rfl, ?_⟩) ?_ ?_
  rotate_left
  · intro w'
    go_simp
    with_reducible rfl
  rotate_left
  · simp only [Act.put, List.setIfInBounds_toArray, List.set_cons_zero, List.set_cons_succ, i64_w, i32_w]
    rfl
  refine last_ (i := 18) (N := none) #[true, true, true, true, true, true, true, true, true, true, true, true, true, true, true, true, true, true, true, false, false] rfl rfl (one_of HT_.out (by kernel_rfl)) (by decide) (fun K hK => ?_)
  rw [if_pos (by rfl)]
  refine wp_store_cell info22s (.tmp 23) (.tmp 16) rfl g5 1 cur2 73 (.slice Av2 nv2 cv2) rfl rfl hcu2 hcs2 rfl ?_
  refine hK.out _ _ ?_
  clear hK K
  refine norm_ (a' := ?_) ?_ ?_
  rotate_left
  · show Act.put _ (none) _ = _
    simp only [Act.put]
    rfl
  have Me := obj_set Md N (by omega) g5 73 _ (upd_at _ _ _) 1 (.slice Av2 nv2 cv2)
  obtain ⟨cur3, hcu3, hcs3⟩ := obj_blk Me N (by omega) g5 73 _ (upd_at _ _ _) 2 (by show 2 < 6; decide)
  refine pure_ (i := 19) (N := some 24) (v := ?_) (a' := ?_) #[true, true, true, true, true, true, true, true, true, true, true, true, true, true, true, true, true, true, true, true, false] rfl rfl (any_of HT_.out (by kernel_rfl)) (fun _ _ _ h => h) (Or.inl ⟨by rfl, ?_⟩) ?_ ?_
  rotate_left
  · intro w'
    go_simp
    with_reducible rfl
  rotate_left
  · simp only [Act.put, List.setIfInBounds_toArray, List.set_cons_zero, List.set_cons_succ, i64_w, i32_w]
    rfl
  refine last_ (i := 20) (N := none) #[true, true, true, true, true, true, true, true, true, true, true, true, true, true, true, true, true, true, true, true, true] rfl rfl (one_of HT_.out (by kernel_rfl)) (by decide) (fun K hK => ?_)
  rw [if_pos (by rfl)]
  refine wp_store_cell info71s (.tmp 24) (.tmp 21) rfl g5 2 cur3 73 (.slice Av3 nv3 cv3) rfl rfl hcu3 hcs3 rfl ?_
  refine hK.out _ _ ?_
  clear hK K
  refine norm_ (a' := ?_) ?_ ?_
  rotate_left
  · show Act.put _ (none) _ = _
    simp only [Act.put]
    rfl
  have Mf := obj_set Me N (by omega) g5 73 _ (upd_at _ _ _) 2 (.slice Av3 nv3 cv3)
  refine done_ (done_of HT_.out (by kernel_rfl)) ?_
  have q0 := upd_at (upd (upd Lc N (osl g5 73 ([Value.slice A1 s.seen.length c1, .slice A2 s.safe.length c2, .slice A3 s.pend.length c3, .int .i64 s.fall, .bool s.off, .bool s.opn].set 0 (.slice Av1 nv1 cv1)))) N (osl g5 73 (([Value.slice A1 s.seen.length c1, .slice A2 s.safe.length c2, .slice A3 s.pend.length c3, .int .i64 s.fall, .bool s.off, .bool s.opn].set 0 (.slice Av1 nv1 cv1)).set 1 (.slice Av2 nv2 cv2)))) N (osl g5 73 ((([Value.slice A1 s.seen.length c1, .slice A2 s.safe.length c2, .slice A3 s.pend.length c3, .int .i64 s.fall, .bool s.off, .bool s.opn].set 0 (.slice Av1 nv1 cv1)).set 1 (.slice Av2 nv2 cv2)).set 2 (.slice Av3 nv3 cv3)))
  have B6 := ((hBc.setCell (p := ⟨g5, 0, none⟩) (by exact hgb) (.slice Av1 nv1 cv1)).setCell (p := ⟨g5, 1, none⟩) (by exact hgb) (.slice Av2 nv2 cv2)).setCell (p := ⟨g5, 2, none⟩) (by exact hgb) (.slice Av3 nv3 cv3)
  go_wp2
  go_ret
  refine ⟨g5, _, rfl, Mf, ⟨?_, ?_, ?_, ?_⟩, fun j hj => ?_, B6⟩
  · rw [upd_at, upd_ne (by omega), upd_ne (by omega), upd_ne (by omega), upd_ne (by omega), upd_ne (by omega), upd_ne (by omega), upd_ne (by omega), upd_ne (by omega), upd_ne (by omega), g1, g2, g3]; rfl
  · rw [upd_ne (by omega), upd_ne (by omega), upd_ne (by omega), g1]; rfl
  · rw [upd_ne (by omega), upd_ne (by omega), upd_ne (by omega), g2]; rfl
  · rw [upd_ne (by omega), upd_ne (by omega), upd_ne (by omega), g3]; rfl
  · rw [upd_ne (by omega), upd_ne (by omega), upd_ne (by omega)]; exact gj j hj
end Go.Proofs.Ytfagljigaippiaa.Dk
