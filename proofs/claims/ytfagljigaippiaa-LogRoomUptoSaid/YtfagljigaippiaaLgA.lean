/- Chapter 7: the log's object beside the disk; met, Blocks, Read. -/
import Derived.Test.YtfagljigaippiaaDkI
import Derived.Test.YtfagljigaippiaaWTab
namespace Go.Proofs.Ytfagljigaippiaa.Dk
open Go.RowKit Go.Maps Go.Proofs.Ytfagljigaippiaa.X Go.Proofs.YtfagljigaippiaaW.PrintWords Go.Proofs.YtfagljigaippiaaW.PrintLast Go.Proofs.YtfagljigaippiaaW.PrintMore
set_option linter.unusedVariables false
set_option linter.unusedSimpArgs false

def lbl.T1 : Bool × List (List Nat × List Nat) := (true, [([], []), ([0], [0]), ([1], [1]), ([2], [2]), ([3], [3]), ([], []), ([5], [5]), ([6], [6]), ([7], [7]), ([4, 8], [4, 8]), ([9, 4, 0, 1, 2, 3, 4, 5, 6, 7, 8, 9], [9])])
def lbl.B1 : List Nat := [0, 1, 3, 7, 15, 0, 32, 96, 224, 511, 1023]
theorem lbl.tab1 : rtab .any (opsOf Try.f10 1) = lbl.T1 := by kernel_rfl
theorem lbl.bits1 : waitsOk lbl.T1.2 lbl.B1 = true := by kernel_rfl
def lrd.T5 : Bool × List (List Nat × List Nat) := (true, [([], []), ([0], [0]), ([1], [1]), ([2], [2]), ([], []), ([4], [4]), ([5], [5]), ([6], [6]), ([], []), ([7, 8], [7, 8]), ([3, 9], [3, 9]), ([10], [10]), ([11], [11]), ([11], [11]), ([12, 10, 0, 1, 2, 3, 4, 5, 6, 7, 8, 9, 10, 11, 12], [12]), ([13, 14, 0, 1, 2, 3, 4, 5, 6, 7, 8, 9, 10, 11, 12, 13, 14], [13])])
def lrd.B5 : List Nat := [0, 1, 3, 7, 0, 16, 48, 112, 0, 496, 1023, 2047, 4095, 4095, 8191, 32767]
theorem lrd.tab5 : rtab .any (opsOf Try.f22 5) = lrd.T5 := by kernel_rfl
theorem lrd.bits5 : waitsOk lrd.T5.2 lrd.B5 = true := by kernel_rfl
/-- Outside the disk's rows and the log's row nothing turns. -/
def Elj (L L' : Nat → Sl) (i j : Nat) : Prop := ∀ k, (k < i ∨ i + 4 ≤ k) → k ≠ j → L' k = L k
theorem elj_refl (L : Nat → Sl) (i j : Nat) : Elj L L i j := fun _ _ _ => rfl
theorem elj_trans {L L' L'' : Nat → Sl} {i j : Nat} (h : Elj L L' i j) (k : Elj L' L'' i j) : Elj L L'' i j := fun q h1 h2 => (k q h1 h2).trans (h q h1 h2)
theorem elj_else {L L' : Nat → Sl} {i j : Nat} (h : Else L L' i) : Elj L L' i j := fun q h1 _ => h q h1
/-- The log stands: its disk, and its own object (the disk, the size, is it dead). -/
structure Lg (base : Nat) (L : Nat → Sl) (N i g j gl : Nat) (s : DS) (n m sz : Nat) (dead : Bool) (w0 w : World) : Prop where
  at_ : At base L N i g s n m w0 w
  log : L j = osl gl 76 [.pointer (some ⟨g, 0, none⟩), .int .i64 sz, .bool dead]
  hj : j < N
  ap : j < i ∨ i + 4 ≤ j
section
variable {base : Nat} {L : Nat → Sl} {N i g j gl : Nat} {s s' : DS} {n m sz : Nat} {dead : Bool} {w0 w w' : World}
theorem Lg.below (h : Lg base L N i g j gl s n m sz dead w0 w) (hb : Below w.heap.size w w') : Lg base L N i g j gl s n m sz dead w0 w' := ⟨h.at_.below hb, h.log, h.hj, h.ap⟩
theorem Lg.step {L' : Nat → Sl} {m' : Nat} (h : Lg base L N i g j gl s n m sz dead w0 w) (a : At base L' N i g s' n m' w0 w') (e : Else L L' i) : Lg base L' N i g j gl s' n m' sz dead w0 w' := ⟨a, (e j h.ap).trans h.log, h.hj, h.ap⟩
theorem Lg.cells (h : Lg base L N i g j gl s n m sz dead w0 w) : w.cell? ⟨gl, 0, none⟩ = some (.pointer (some ⟨g, 0, none⟩)) ∧ w.cell? ⟨gl, 1, none⟩ = some (.int .i64 sz) ∧ w.cell? ⟨gl, 2, none⟩ = some (.bool dead) ∧ w.frozen? ⟨gl, 2, none⟩ = false :=
  ⟨(obj_cell h.at_.many j h.hj gl 76 _ h.log 0 (by show 0 < 3; decide)).1, (obj_cell h.at_.many j h.hj gl 76 _ h.log 1 (by show 1 < 3; decide)).1, (obj_cell h.at_.many j h.hj gl 76 _ h.log 2 (by show 2 < 3; decide)).1, (obj_cell h.at_.many j h.hj gl 76 _ h.log 2 (by show 2 < 3; decide)).2.1⟩
/-- The log's last cell is set. -/
theorem Lg.set (h : Lg base L N i g j gl s n m sz dead w0 w) (b : Bool) : Lg base (upd L j (osl gl 76 [.pointer (some ⟨g, 0, none⟩), .int .i64 sz, .bool b])) N i g j gl s n m sz b w0 (w.setCell ⟨gl, 2, none⟩ (.bool b)) := by
  obtain ⟨k0, k1, k2, k3⟩ := h.at_.disk
  have ap := h.ap
  obtain ⟨_, _, hb⟩ := obj_cell h.at_.many j h.hj gl 76 _ h.log 2 (by show 2 < 3; decide)
  have hm := obj_set h.at_.many j h.hj gl 76 _ h.log 2 (.bool b)
  refine ⟨⟨hm, ⟨?_, ?_, ?_, ?_⟩, h.at_.hi, h.at_.ok, h.at_.bel.setCell (by exact hb) _, h.at_.hb, h.at_.hn, h.at_.hm⟩, upd_at _ _ _, h.hj, h.ap⟩
  · rw [upd_ne (by omega), upd_ne (by omega), upd_ne (by omega), upd_ne (by omega)]; exact k0
  · rw [upd_ne (by omega)]; exact k1
  · rw [upd_ne (by omega)]; exact k2
  · rw [upd_ne (by omega)]; exact k3
end
set_option maxHeartbeats 8000000 in
set_option maxRecDepth 100000 in
theorem met_calls {base : Nat} {L : Nat → Sl} {N i g j gl : Nat} {s : DS} {n m sz : Nat} {dead : Bool} {w0 w : World} (h : Lg base L N i g j gl s n m sz dead w0 w) (e : Int) :
    Calls Try.prog 39 #[.pointer (some ⟨gl, 0, none⟩), .int .i64 e] w fun r w' => r = .returned (.int .i64 e) ∧ ∃ L', Lg base L' N i g j gl s n m sz (dead || decide (e = 9)) w0 w' ∧ Elj L L' i j := by
  obtain ⟨_, _, c2, z2⟩ := h.cells
  have R : Aside0 (∀ b, b = (dead || decide (e = 9)) → ∃ L', Lg base L' N i g j gl s n m sz (dead || decide (e = 9)) w0 (w.setCell ⟨gl, 2, none⟩ (.bool b)) ∧ Elj L L' i j) := ⟨fun b hb => by rw [hb]; exact ⟨_, h.set _, fun k _ hk => upd_ne hk⟩⟩
  clear h
  go_enter Try.func39, Try.ntmps39
  cases dead with
  | true =>
    go_wp2
    go_ret
    exact ⟨rfl, R.out _ (by simp)⟩
  | false =>
    by_cases he : e = 9
    · subst he
      go_wp2
      go_ret
      exact ⟨rfl, R.out _ (by simp)⟩
    · have q1 : (e = 9) = False := eq_false he
      have q2 : (e == 9) = false := by simp [he]
      go_wp2
      go_ret
      exact ⟨rfl, R.out _ (by simp [he])⟩
set_option maxHeartbeats 8000000 in
set_option maxRecDepth 100000 in
theorem blocks_calls {base : Nat} {L : Nat → Sl} {N i g j gl : Nat} {s : DS} {n m sz : Nat} {dead : Bool} {w0 w : World} (h : Lg base L N i g j gl s n m sz dead w0 w) (hsz : sz ≤ 8192) :
    Calls Try.prog 10 #[.pointer (some ⟨gl, 0, none⟩)] w fun r w' => r = .returned (.int .i64 ((n : Int) - sz)) ∧ Below w.heap.size w w' := by
  obtain ⟨c0, c1, _, _⟩ := h.cells
  have K0 := Aside0.mk c0
  have K1 := Aside0.mk c1
  have H := Aside0.mk h
  have hn := h.at_.hn
  clear h c0 c1
  have hw : wrap64 ((n : Int) - sz) = (n : Int) - sz := by unfold wrap64; omega
  have CS : ∀ W, Below w.heap.size w W → Calls Try.prog 33 #[.pointer (some ⟨g, 0, none⟩)] W fun e w' => e = .returned (.int .i64 n) ∧ w' = W := fun W hW => by
    have := sectors_calls (H.out.at_.below hW).many H.out.at_.disk H.out.at_.hi
    rw [H.out.at_.ok.seen] at this
    exact this
  go_enter Try.func10, Try.ntmps10
  go_upto_region 1 with (fail)
  refine start_ (n := 11) (S := fun W => Below w.heap.size w W) (ds := []) #[false, false, false, false, false, false, false, false, false, false, false] (by kernel_rfl) rfl rfl (below_drew1 (Below.refl _ _)) (fun hHeld => ?_); refine with_tabW lbl.tab1 lbl.bits1 (fun HT_ HW_ => ?_)
  generalize World.drew _ = wR at hHeld ⊢
  refine pure_ (i := 0) (N := some 3) (v := ?_) (a' := ?_) #[true, false, false, false, false, false, false, false, false, false, false] rfl rfl (any_of HT_.out (by kernel_rfl)) (fun _ _ _ h => h) (Or.inl ⟨by rfl, ?_⟩) ?_ ?_
  rotate_left
  · intro w'
    go_simp
    with_reducible rfl
  rotate_left
  · simp only [Act.put, List.setIfInBounds_toArray, List.set_cons_zero, List.set_cons_succ, i64_w, i32_w]
    rfl
  refine pure_ (i := 1) (N := some 4) (v := ?_) (a' := ?_) #[true, true, false, false, false, false, false, false, false, false, false] rfl rfl (any_of HT_.out (by kernel_rfl)) (fun _ _ _ h => h) (Or.inl ⟨by rfl, ?_⟩) ?_ ?_
  rotate_left
  · intro w'
    go_simp
    with_reducible rfl
  rotate_left
  · simp only [Act.put, List.setIfInBounds_toArray, List.set_cons_zero, List.set_cons_succ, i64_w, i32_w]
    rfl
  refine pure_ (i := 2) (N := some 5) (v := ?_) (a' := ?_) #[true, true, true, false, false, false, false, false, false, false, false] rfl rfl (any_of HT_.out (by kernel_rfl)) (fun _ _ _ h => h) (Or.inl ⟨by rfl, ?_⟩) ?_ ?_
  rotate_left
  · intro w'
    go_simp
    with_reducible rfl
  rotate_left
  · simp only [Act.put, List.setIfInBounds_toArray, List.set_cons_zero, List.set_cons_succ, i64_w, i32_w]
    rfl
  refine take_ (i := 3) (N := some 6) (v := ?_) (a' := ?_) #[true, true, true, true, false, false, false, false, false, false, false] rfl rfl (take_ofW HT_.out HW_.out (by kernel_rfl)) (fun _ _ _ h => h) (Or.inl ⟨by rfl, ?_⟩) hHeld ?_ ?_
  rotate_left
  · rintro w' s0
    have hK := below_cell' s0 K0.out
    go_simp
    with_reducible rfl
  rotate_left
  · simp only [Act.put, List.setIfInBounds_toArray, List.set_cons_zero, List.set_cons_succ, i64_w, i32_w]
    rfl
  refine pure_ (i := 5) (N := some 8) (v := ?_) (a' := ?_) #[true, true, true, true, false, true, false, false, false, false, false] rfl rfl (any_of HT_.out (by kernel_rfl)) (fun _ _ _ h => h) (Or.inl ⟨by rfl, ?_⟩) ?_ ?_
  rotate_left
  · intro w'
    go_simp
    with_reducible rfl
  rotate_left
  · simp only [Act.put, List.setIfInBounds_toArray, List.set_cons_zero, List.set_cons_succ, i64_w, i32_w]
    rfl
  refine pure_ (i := 6) (N := some 9) (v := ?_) (a' := ?_) #[true, true, true, true, false, true, true, false, false, false, false] rfl rfl (any_of HT_.out (by kernel_rfl)) (fun _ _ _ h => h) (Or.inl ⟨by rfl, ?_⟩) ?_ ?_
  rotate_left
  · intro w'
    go_simp
    with_reducible rfl
  rotate_left
  · simp only [Act.put, List.setIfInBounds_toArray, List.set_cons_zero, List.set_cons_succ, i64_w, i32_w]
    rfl
  refine pure_ (i := 7) (N := some 10) (v := ?_) (a' := ?_) #[true, true, true, true, false, true, true, true, false, false, false] rfl rfl (any_of HT_.out (by kernel_rfl)) (fun _ _ _ h => h) (Or.inl ⟨by rfl, ?_⟩) ?_ ?_
  rotate_left
  · intro w'
    go_simp
    with_reducible rfl
  rotate_left
  · simp only [Act.put, List.setIfInBounds_toArray, List.set_cons_zero, List.set_cons_succ, i64_w, i32_w]
    rfl
  refine take_ (i := 8) (N := some 11) (v := ?_) (a' := ?_) #[true, true, true, true, false, true, true, true, true, false, false] rfl rfl (take_ofW HT_.out HW_.out (by kernel_rfl)) (fun _ _ _ h => h) (Or.inl ⟨by rfl, ?_⟩) hHeld ?_ ?_
  rotate_left
  · rintro w' s0
    have hK := below_cell' s0 K1.out
    go_simp
    with_reducible rfl
  rotate_left
  · simp only [Act.put, List.setIfInBounds_toArray, List.set_cons_zero, List.set_cons_succ, i64_w, i32_w]
    rfl
  refine one_ (i := 4) (N := some 7) #[true, true, true, true, true, true, true, true, true, false, false] rfl rfl (one_of HT_.out (by kernel_rfl)) (by decide) (fun K hK => ?_)
  refine goes_ Try.func33 (by kernel_rfl) rfl #[.pointer (some ⟨g, 0, none⟩)] (by rfl) rfl rfl (by (try simp only [List.map_toArray, List.map_cons, List.map_nil]); first | done | rfl) ?_
  with_reducible refine (CS _ hHeld).mono ?_
  rintro e wa ⟨rfl, hwa⟩
  refine ⟨_, rfl, ?_⟩
  subst hwa
  refine hK.out _ _ hHeld (fun hHeld => ?_)
  clear hK K
  refine norm_ (a' := ?_) ?_ ?_
  rotate_left
  · show Act.put _ (some 7) _ = _
    simp only [Act.put, List.setIfInBounds_toArray, List.set_cons_zero, List.set_cons_succ, i64_w, i32_w]
    rfl
  refine pure_ (i := 9) (N := some 12) (v := ?_) (a' := ?_) #[true, true, true, true, true, true, true, true, true, true, false] rfl rfl (any_of HT_.out (by kernel_rfl)) (fun _ _ _ h => h) (Or.inl ⟨by rfl, ?_⟩) ?_ ?_
  rotate_left
  · intro w'
    go_simp
    with_reducible rfl
  rotate_left
  · simp only [Act.put, List.setIfInBounds_toArray, List.set_cons_zero, List.set_cons_succ, i64_w, i32_w]
    rfl
  refine pure_ (i := 10) (N := some 2) (v := ?_) (a' := ?_) #[true, true, true, true, true, true, true, true, true, true, true] rfl rfl (any_of HT_.out (by kernel_rfl)) (fun _ _ _ h => h) (Or.inl ⟨by rfl, ?_⟩) ?_ ?_
  rotate_left
  · intro w'
    go_simp
    with_reducible rfl
  rotate_left
  · simp only [Act.put, List.setIfInBounds_toArray, List.set_cons_zero, List.set_cons_succ, i64_w, i32_w]
    rfl
  refine done_ (done_of HT_.out (by kernel_rfl)) ?_
  have HB := Aside0.mk hHeld
  clear hHeld CS
  go_wp2
  go_ret
  exact ⟨rfl, HB.out⟩
set_option maxHeartbeats 8000000 in
set_option maxRecDepth 100000 in
theorem lread_dead {base : Nat} {L : Nat → Sl} {N i g j gl : Nat} {s : DS} {n m sz : Nat} {dead : Bool} {w0 w : World} (h : Lg base L N i g j gl s n m sz dead w0 w) (hd : dead = true ∨ s.off = true) (k : Int) :
    Calls Try.prog 22 #[.pointer (some ⟨gl, 0, none⟩), .int .i64 k] w fun r w' => r = .returned (.tuple #[.string ByteArray.empty, .int .i64 9]) ∧ ∃ L', Lg base L' N i g j gl s n m sz true w0 w' ∧ Elj L L' i j := by
  obtain ⟨c0, c1, c2, _⟩ := h.cells
  have CO := off_calls h.at_.many h.at_.disk h.at_.hi
  have CM := met_calls h 9
  have e9 : (dead || decide ((9 : Int) = 9)) = true := by simp
  rw [e9] at CM
  clear e9
  clear h
  go_enter Try.func22, Try.ntmps22
  cases dead with
  | true =>
    go_wp2_with (go_at_call 39; (with_reducible refine CM.mono ?_); rintro e w1 ⟨rfl, L1, h1, e1⟩; have R := Aside0.mk (⟨L1, h1, e1⟩ : ∃ L', Lg base L' N i g j gl s n m sz true w0 w1 ∧ Elj L L' i j); clear h1 e1)
    go_ret2
    exact ⟨rfl, R.out⟩
  | false =>
    have ho : s.off = true := by rcases hd with h | h; · cases h
                                 · exact h
    rw [ho] at CO
    go_wp2_with (first
      | (go_at_call 32; (with_reducible refine CO.mono ?_); rintro e w' ⟨rfl, hw⟩; obtain rfl := hw.symm)
      | (go_at_call 39; (with_reducible refine CM.mono ?_); rintro e w1 ⟨rfl, L1, h1, e1⟩; have R := Aside0.mk (⟨L1, h1, e1⟩ : ∃ L', Lg base L' N i g j gl s n m sz true w0 w1 ∧ Elj L L' i j); clear h1 e1))
    go_ret2
    exact ⟨rfl, R.out⟩
set_option maxHeartbeats 8000000 in
set_option maxRecDepth 100000 in
theorem lread_ok {base : Nat} {L : Nat → Sl} {N i g j gl : Nat} {s : DS} {n m sz : Nat} {w0 w : World} (h : Lg base L N i g j gl s n m sz false w0 w) (ho : s.off = false) (hsz : sz ≤ 8192) (k : Nat) (hk : sz + k < n) :
    Calls Try.prog 22 #[.pointer (some ⟨gl, 0, none⟩), .int .i64 (k : Int)] w fun r w' => r = .returned (.tuple #[.string (s.seen.getD (sz + k) ByteArray.empty), .int .i64 0]) ∧ ∃ L', Lg base L' N i g j gl s n m sz false w0 w' ∧ Elj L L' i j := by
  obtain ⟨c0, c1, c2, _⟩ := h.cells
  have K0 := Aside0.mk c0
  have K1 := Aside0.mk c1
  have CO := off_calls h.at_.many h.at_.disk h.at_.hi
  rw [ho] at CO
  have CB := blocks_calls h hsz
  have H := Aside0.mk h
  have hn := h.at_.hn
  have q1 : ((k : Int) < 0) = False := eq_false (by omega)
  have q2 : ((n : Int) - sz ≤ (k : Int)) = False := eq_false (by omega)
  have q2' : ((n : Int) ≤ (k : Int) + sz) = False := eq_false (by omega)
  have q2'' : ((k : Int) < (n : Int) - sz) = True := eq_true (by omega)
  have hw : wrap64 ((sz : Int) + k) = ((sz + k : Nat) : Int) := by unfold wrap64; omega
  have hr : readS s ((sz + k : Nat) : Int) = (s.seen.getD (sz + k) ByteArray.empty, 0) := by
    unfold readS
    rw [if_neg (by rw [ho]; decide), if_pos ⟨by omega, by rw [h.at_.ok.seen]; omega⟩, Int.toNat_natCast]
  obtain ⟨x, hx⟩ : ∃ x, s.seen.getD (sz + k) ByteArray.empty = x := ⟨_, rfl⟩
  rw [hx] at hr ⊢
  clear h c1 hx
  go_enter Try.func22, Try.ntmps22
  go_upto_region 5 with (first
    | (go_at_call 32; (with_reducible refine CO.mono ?_); rintro e w' ⟨rfl, hw1⟩; obtain rfl := hw1.symm)
    | (go_at_call 10; (with_reducible refine CB.mono ?_); rintro e w1 ⟨rfl, hb⟩; have h' := H.out.below hb; have k0 := Aside0.mk (below_cell' hb K0.out); have k1 := Aside0.mk (below_cell' hb K1.out); clear K0 K1 hb; have n_H := Aside0.mk h'; clear H h'; have H := n_H; clear n_H))
  clear CO CB c0 c2 q1 q2 q2' q2''
  have CR : ∀ W, Below w1.heap.size w1 W → Calls Try.prog 25 #[.pointer (some ⟨g, 0, none⟩), .int .i64 (wrap64 ((sz : Int) + (k : Int)))] W fun e w' => e = .returned (.tuple #[.string x, .int .i64 0]) ∧ w' = W := fun W hW => by
    rw [hw]
    have := read_calls ((sz + k : Nat) : Int) (H.out.at_.below hW).many H.out.at_.disk H.out.at_.hi
    rw [hr] at this
    exact this
  refine start_ (n := 16) (S := fun W => Below w1.heap.size w1 W) (ds := []) #[false, false, false, false, false, false, false, false, false, false, false, false, false, false, false, false] (by kernel_rfl) rfl rfl (below_drew1 (Below.refl _ _)) (fun hHeld => ?_); refine with_tabW lrd.tab5 lrd.bits5 (fun HT_ HW_ => ?_)
  generalize World.drew _ = wR at hHeld ⊢
  refine pure_ (i := 0) (N := some 30) (v := ?_) (a' := ?_) #[true, false, false, false, false, false, false, false, false, false, false, false, false, false, false, false] rfl rfl (any_of HT_.out (by kernel_rfl)) (fun _ _ _ h => h) (Or.inl ⟨by rfl, ?_⟩) ?_ ?_
  rotate_left
  · intro w'
    go_simp
    with_reducible rfl
  rotate_left
  · simp only [Act.put, List.setIfInBounds_toArray, List.set_cons_zero, List.set_cons_succ, i64_w, i32_w]
    rfl
  refine pure_ (i := 1) (N := some 31) (v := ?_) (a' := ?_) #[true, true, false, false, false, false, false, false, false, false, false, false, false, false, false, false] rfl rfl (any_of HT_.out (by kernel_rfl)) (fun _ _ _ h => h) (Or.inl ⟨by rfl, ?_⟩) ?_ ?_
  rotate_left
  · intro w'
    go_simp
    with_reducible rfl
  rotate_left
  · simp only [Act.put, List.setIfInBounds_toArray, List.set_cons_zero, List.set_cons_succ, i64_w, i32_w]
    rfl
  refine pure_ (i := 2) (N := some 32) (v := ?_) (a' := ?_) #[true, true, true, false, false, false, false, false, false, false, false, false, false, false, false, false] rfl rfl (any_of HT_.out (by kernel_rfl)) (fun _ _ _ h => h) (Or.inl ⟨by rfl, ?_⟩) ?_ ?_
  rotate_left
  · intro w'
    go_simp
    with_reducible rfl
  rotate_left
  · simp only [Act.put, List.setIfInBounds_toArray, List.set_cons_zero, List.set_cons_succ, i64_w, i32_w]
    rfl
  refine take_ (i := 3) (N := some 33) (v := ?_) (a' := ?_) #[true, true, true, true, false, false, false, false, false, false, false, false, false, false, false, false] rfl rfl (take_ofW HT_.out HW_.out (by kernel_rfl)) (fun _ _ _ h => h) (Or.inl ⟨by rfl, ?_⟩) hHeld ?_ ?_
  rotate_left
  · rintro w' s0
    have hK := below_cell' s0 k0.out
    go_simp
    with_reducible rfl
  rotate_left
  · simp only [Act.put, List.setIfInBounds_toArray, List.set_cons_zero, List.set_cons_succ, i64_w, i32_w]
    rfl
  refine pure_ (i := 4) (N := some 34) (v := ?_) (a' := ?_) #[true, true, true, true, true, false, false, false, false, false, false, false, false, false, false, false] rfl rfl (any_of HT_.out (by kernel_rfl)) (fun _ _ _ h => h) (Or.inl ⟨by rfl, ?_⟩) ?_ ?_
  rotate_left
  · intro w'
    go_simp
    with_reducible rfl
  rotate_left
  · simp only [Act.put, List.setIfInBounds_toArray, List.set_cons_zero, List.set_cons_succ, i64_w, i32_w]
    rfl
  refine pure_ (i := 5) (N := some 35) (v := ?_) (a' := ?_) #[true, true, true, true, true, true, false, false, false, false, false, false, false, false, false, false] rfl rfl (any_of HT_.out (by kernel_rfl)) (fun _ _ _ h => h) (Or.inl ⟨by rfl, ?_⟩) ?_ ?_
  rotate_left
  · intro w'
    go_simp
    with_reducible rfl
  rotate_left
  · simp only [Act.put, List.setIfInBounds_toArray, List.set_cons_zero, List.set_cons_succ, i64_w, i32_w]
    rfl
  refine pure_ (i := 6) (N := some 36) (v := ?_) (a' := ?_) #[true, true, true, true, true, true, true, false, false, false, false, false, false, false, false, false] rfl rfl (any_of HT_.out (by kernel_rfl)) (fun _ _ _ h => h) (Or.inl ⟨by rfl, ?_⟩) ?_ ?_
  rotate_left
  · intro w'
    go_simp
    with_reducible rfl
  rotate_left
  · simp only [Act.put, List.setIfInBounds_toArray, List.set_cons_zero, List.set_cons_succ, i64_w, i32_w]
    rfl
  refine take_ (i := 7) (N := some 37) (v := ?_) (a' := ?_) #[true, true, true, true, true, true, true, true, false, false, false, false, false, false, false, false] rfl rfl (take_ofW HT_.out HW_.out (by kernel_rfl)) (fun _ _ _ h => h) (Or.inl ⟨by rfl, ?_⟩) hHeld ?_ ?_
  rotate_left
  · rintro w' s0
    have hK := below_cell' s0 k1.out
    go_simp
    with_reducible rfl
  rotate_left
  · simp only [Act.put, List.setIfInBounds_toArray, List.set_cons_zero, List.set_cons_succ, i64_w, i32_w]
    rfl
  refine pure_ (i := 8) (N := some 38) (v := ?_) (a' := ?_) #[true, true, true, true, true, true, true, true, true, false, false, false, false, false, false, false] rfl rfl (any_of HT_.out (by kernel_rfl)) (fun _ _ _ h => h) (Or.inl ⟨by rfl, ?_⟩) ?_ ?_
  rotate_left
  · intro w'
    go_simp
    with_reducible rfl
  rotate_left
  · simp only [Act.put, List.setIfInBounds_toArray, List.set_cons_zero, List.set_cons_succ, i64_w, i32_w]
    rfl
  refine pure_ (i := 9) (N := some 39) (v := ?_) (a' := ?_) #[true, true, true, true, true, true, true, true, true, true, false, false, false, false, false, false] rfl rfl (any_of HT_.out (by kernel_rfl)) (fun _ _ _ h => h) (Or.inl ⟨by rfl, ?_⟩) ?_ ?_
  rotate_left
  · intro w'
    go_simp
    with_reducible rfl
  rotate_left
  · simp only [Act.put, List.setIfInBounds_toArray, List.set_cons_zero, List.set_cons_succ, i64_w, i32_w]
    rfl
  refine one_ (i := 10) (N := some 40) #[true, true, true, true, true, true, true, true, true, true, true, false, false, false, false, false] rfl rfl (one_of HT_.out (by kernel_rfl)) (by decide) (fun K hK => ?_)
  refine goes_ Try.func25 (by kernel_rfl) rfl #[.pointer (some ⟨g, 0, none⟩), .int .i64 (wrap64 ((sz : Int) + (k : Int)))] (by rfl) rfl rfl (by (try simp only [List.map_toArray, List.map_cons, List.map_nil]); first | done | rfl) ?_
  with_reducible refine (CR _ hHeld).mono ?_
  rintro e wa ⟨rfl, hwa⟩
  refine ⟨_, rfl, ?_⟩
  subst hwa
  refine hK.out _ _ hHeld (fun hHeld => ?_)
  clear hK K
  refine norm_ (a' := ?_) ?_ ?_
  rotate_left
  · show Act.put _ (some 40) _ = _
    simp only [Act.put, List.setIfInBounds_toArray, List.set_cons_zero, List.set_cons_succ, i64_w, i32_w]
    rfl
  refine pure_ (i := 11) (N := some 29) (v := ?_) (a' := ?_) #[true, true, true, true, true, true, true, true, true, true, true, true, false, false, false, false] rfl rfl (any_of HT_.out (by kernel_rfl)) (fun _ _ _ h => h) (Or.inl ⟨by rfl, ?_⟩) ?_ ?_
  rotate_left
  · intro w'
    go_simp
    with_reducible rfl
  rotate_left
  · simp only [Act.put, List.setIfInBounds_toArray, List.set_cons_zero, List.set_cons_succ, i64_w, i32_w]
    rfl
  refine pure_ (i := 12) (N := some 41) (v := ?_) (a' := ?_) #[true, true, true, true, true, true, true, true, true, true, true, true, true, false, false, false] rfl rfl (any_of HT_.out (by kernel_rfl)) (fun _ _ _ h => h) (Or.inl ⟨by rfl, ?_⟩) ?_ ?_
  rotate_left
  · intro w'
    go_simp
    with_reducible rfl
  rotate_left
  · simp only [Act.put, List.setIfInBounds_toArray, List.set_cons_zero, List.set_cons_succ, i64_w, i32_w]
    rfl
  refine pure_ (i := 13) (N := some 42) (v := ?_) (a' := ?_) #[true, true, true, true, true, true, true, true, true, true, true, true, true, true, false, false] rfl rfl (any_of HT_.out (by kernel_rfl)) (fun _ _ _ h => h) (Or.inl ⟨by rfl, ?_⟩) ?_ ?_
  rotate_left
  · intro w'
    go_simp
    with_reducible rfl
  rotate_left
  · simp only [Act.put, List.setIfInBounds_toArray, List.set_cons_zero, List.set_cons_succ, i64_w, i32_w]
    rfl
  refine pure_ (i := 14) (N := some 6) (v := ?_) (a' := ?_) #[true, true, true, true, true, true, true, true, true, true, true, true, true, true, true, false] rfl rfl (any_of HT_.out (by kernel_rfl)) (fun _ _ _ h => h) (Or.inl ⟨by rfl, ?_⟩) ?_ ?_
  rotate_left
  · intro w'
    go_simp
    with_reducible rfl
  rotate_left
  · simp only [Act.put, List.setIfInBounds_toArray, List.set_cons_zero, List.set_cons_succ, i64_w, i32_w]
    rfl
  refine pure_ (i := 15) (N := some 7) (v := ?_) (a' := ?_) #[true, true, true, true, true, true, true, true, true, true, true, true, true, true, true, true] rfl rfl (any_of HT_.out (by kernel_rfl)) (fun _ _ _ h => h) (Or.inl ⟨by rfl, ?_⟩) ?_ ?_
  rotate_left
  · intro w'
    go_simp
    with_reducible rfl
  rotate_left
  · simp only [Act.put, List.setIfInBounds_toArray, List.set_cons_zero, List.set_cons_succ, i64_w, i32_w]
    rfl
  refine done_ (done_of HT_.out (by kernel_rfl)) ?_
  have h' := H.out.below hHeld
  clear hHeld CR hr hw
  have n_H := Aside0.mk h'; clear H h'; have H := n_H; clear n_H
  have CM := met_calls H.out 0
  have e9 : (false || decide ((0 : Int) = 9)) = false := by decide
  rw [e9] at CM
  clear e9
  go_wp2_with (go_at_call 39; (with_reducible refine CM.mono ?_); rintro e w3 ⟨rfl, L1, h1, e1⟩; have R := Aside0.mk (⟨L1, h1, e1⟩ : ∃ L', Lg base L' N i g j gl s n m sz false w0 w3 ∧ Elj L L' i j); clear h1 e1)
  go_ret2
  exact ⟨rfl, R.out⟩
end Go.Proofs.Ytfagljigaippiaa.Dk
