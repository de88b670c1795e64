/- Chapter 6: the document's New and Copy. -/
import Derived.Test.YtebhmbdblifddaaDkR
namespace Go.Proofs.Ytebhmbdblifddaa.Dk
open Go.RowKit Go.Maps Go.Proofs.Ytebhmbdblifddaa.X Go.Proofs.YtebhmbdblifddaaW.PrintWords Go.Proofs.YtebhmbdblifddaaW.PrintLast Go.Proofs.YtebhmbdblifddaaW.PrintMore
set_option linter.unusedVariables false
set_option linter.unusedSimpArgs false

def drp.T1 : Bool × List (List Nat × List Nat) := (true, [([], []), ([0], [0]), ([1], [1]), ([2], [2]), ([], []), ([4], [4]), ([5], [5]), ([6], [6]), ([], []), ([8], [8]), ([9], [9]), ([10], [10]), ([3, 7, 11], [3, 7, 11]), ([12], [12]), ([13, 0, 1, 2, 3, 4, 5, 6, 7, 8, 9, 10, 11, 12, 13], [13])])
def drp.B1 : List Nat := [0, 1, 3, 7, 0, 16, 48, 112, 0, 256, 768, 1792, 4095, 8191, 16383]
theorem drp.tab1 : rtab .any (opsOf Try.f23 1) = drp.T1 := by kernel_rfl
theorem drp.bits1 : waitsOk drp.T1.2 drp.B1 = true := by kernel_rfl
def drp.T2 : Bool × List (List Nat × List Nat) := (true, [([], []), ([], []), ([1], [1]), ([2], [2]), ([3], [3]), ([], []), ([5], [5]), ([6], [6]), ([7], [7]), ([4, 8], [4, 8]), ([0, 0, 1, 2, 3, 4, 5, 6, 7, 8, 9], [0]), ([10, 0, 1, 2, 3, 4, 5, 6, 7, 8, 9], [10]), ([11, 9, 9, 0, 1, 2, 3, 4, 5, 6, 7, 8, 9], [9, 11])])
def drp.B2 : List Nat := [0, 0, 2, 6, 14, 0, 32, 96, 224, 510, 1023, 2047, 4095]
theorem drp.tab2 : rtab .any (opsOf Try.f23 2) = drp.T2 := by kernel_rfl
theorem drp.bits2 : waitsOk drp.T2.2 drp.B2 = true := by kernel_rfl
def drp.T3 : Bool × List (List Nat × List Nat) := (true, [([], []), ([], []), ([1], [1]), ([2], [2]), ([3], [3]), ([], []), ([5], [5]), ([6], [6]), ([7], [7]), ([4, 8], [4, 8]), ([0, 0, 1, 2, 3, 4, 5, 6, 7, 8, 9], [0]), ([10, 0, 1, 2, 3, 4, 5, 6, 7, 8, 9], [10]), ([11, 9, 9, 0, 1, 2, 3, 4, 5, 6, 7, 8, 9], [9, 11])])
def drp.B3 : List Nat := [0, 0, 2, 6, 14, 0, 32, 96, 224, 510, 1023, 2047, 4095]
theorem drp.tab3 : rtab .any (opsOf Try.f23 3) = drp.T3 := by kernel_rfl
theorem drp.bits3 : waitsOk drp.T3.2 drp.B3 = true := by kernel_rfl
theorem zeros_made (W : World) : (convert 68 9 (.slice (some ⟨W.heap.size, 0, none⟩) 512 512)).run Try.prog (W.alloc (.cells (madeCells #[.int .u8 0] 512) 5)) = .ok (.string Z) (W.alloc (.cells (madeCells #[.int .u8 0] 512) 5)) := by
  have h := own_made W W.heap.size 5 .u8 512 (Nat.le_refl _) (by decide)
  have h2 := own_string (P := Try.prog) (src := 68) (dst := 9) (e := 5) Try.underlying68 Try.underlying5 Try.underlying9 h
  rw [h2]
  have e : strOfNums (List.replicate 512 (0 : Int)) = Z := by rw [Z_F]; exact nums_rep 0 512
  rw [e]
/-- The document's disk is added. -/
theorem many_diskr {base : Nat} {L : Nat → Sl} {N : Nat} {w : World} (h : Many base L N w) (hbase : base ≤ w.heap.size) (a b : Bool) (f : Int) : ∃ L', Many base L' (N + 3) (w.alloc (.cells #[.slice none 0 0, .slice none 0 0, .bool a, .bool b, .int .i64 f] 75)) ∧ DiskR L' N w.heap.size { seen := [], safe := [], pend := [], fall := f, off := a, opn := b } ∧ (L' (N + 1)).v = .slice none 0 0 ∧ (L' (N + 2)).v = .slice none 0 0 ∧ ∀ j, j < N → L' j = L j := by
  have hal := below_alloc (Below.refl w.heap.size w) (.cells #[.slice none 0 0, .slice none 0 0, .bool a, .bool b, .int .i64 f] 75)
  have m1 := many_add h (osl w.heap.size 75 [.slice none 0 0, .slice none 0 0, .bool a, .bool b, .int .i64 f]) hal (by
    refine ⟨rfl, .inr ⟨w.heap.size, 5, _, rfl, hbase, blk_new _ _, Nat.le_refl _, by decide, rfl, rfl⟩⟩) (fun k hk => by
    have : w.heap.size = k := by simpa [osl, Value.ownBlock] using hk
    omega)
  have m2 := many_add m1 (ssl (.slice none 0 0) []) (Below.refl _ _) (World.ownsRow_nil _ base 9 1) (fun k hk => by simp [ssl, Value.ownBlock] at hk)
  have m3 := many_add m2 (wsl 89 (.slice none 0 0) []) (Below.refl _ _) (World.ownsRow_nil _ base 89 2) (fun k hk => by simp [wsl, Value.ownBlock] at hk)
  have e0 : ∀ X2 X1 X0 : Sl, upd (upd (upd L N X0) (N + 1) X1) (N + 1 + 1) X2 N = X0 := fun X2 X1 X0 => by rw [upd_ne (by omega), upd_ne (by omega), upd_at]
  have e1 : ∀ X2 X1 X0 : Sl, upd (upd (upd L N X0) (N + 1) X1) (N + 1 + 1) X2 (N + 1) = X1 := fun X2 X1 X0 => by rw [upd_ne (by omega), upd_at]
  have e2 : ∀ X2 X1 X0 : Sl, upd (upd (upd L N X0) (N + 1) X1) (N + 1 + 1) X2 (N + 2) = X2 := fun X2 X1 X0 => upd_at _ _ _
  refine ⟨_, m3, ⟨?_, ?_, ?_⟩, by rw [e1]; rfl, by rw [e2]; rfl, fun j hj => by rw [upd_ne (by omega), upd_ne (by omega), upd_ne (by omega)]⟩
  · rw [e0, e1, e2]; rfl
  · rw [e1]; rfl
  · rw [e2]; rfl
theorem diskr_safe_new {L : Nat → Sl} {i g : Nat} {s : DS} (hd : DiskR L i g s) (v' : Value) (xs : List ByteArray) : DiskR (upd (upd L (i + 1) (ssl v' xs)) i (osl g 75 ([(L (i + 1)).v, (L (i + 2)).v, .bool s.off, .bool s.opn, .int .i64 s.fall].set 0 v'))) i g { s with safe := xs } ∧ Else3 L (upd (upd L (i + 1) (ssl v' xs)) i (osl g 75 ([(L (i + 1)).v, (L (i + 2)).v, .bool s.off, .bool s.opn, .int .i64 s.fall].set 0 v'))) i := by
  obtain ⟨h0, h1, h2⟩ := hd
  refine ⟨⟨?_, ?_, ?_⟩, fun j hj => by rw [upd_ne (by omega), upd_ne (by omega)]⟩
  · rw [upd_at, upd_ne (by omega), upd_at, upd_ne (by omega), upd_ne (by omega)]; rfl
  · rw [upd_ne (by omega), upd_at]; rfl
  · rw [upd_ne (by omega), upd_ne (by omega)]; exact h2
set_option maxHeartbeats 8000000 in
set_option maxRecDepth 100000 in
theorem rnew_none {w : World} (n : Int) (hn : ¬ (1 ≤ n ∧ n ≤ 8192)) : Calls Try.prog 22 #[.int .i64 n] w fun e w' => e = .returned (.tuple #[.pointer none, .int .i64 1]) ∧ w' = w := by
  go_enter Try.func22, Try.ntmps22
  by_cases h1 : n < 1
  · have q1 : (n < 1) = True := eq_true h1
    go_wp2
    go_ret2
    exact ⟨rfl, rfl⟩
  · have q1 : (n < 1) = False := eq_false h1
    have q2 : (8192 < n) = True := eq_true (by omega)
    go_wp2
    go_ret2
    exact ⟨rfl, rfl⟩
set_option maxHeartbeats 8000000 in
set_option maxRecDepth 100000 in
theorem rnew_calls {base : Nat} {L : Nat → Sl} {N : Nat} {w : World} (n : Nat) (h1 : 1 ≤ n) (h2 : n ≤ 8192) (h : Many base L N w) (hbase : base ≤ w.heap.size) :
    Calls Try.prog 22 #[.int .i64 (n : Int)] w fun e w' => ∃ g L', e = .returned (.tuple #[.pointer (some ⟨g, 0, none⟩), .int .i64 0]) ∧ Many base L' (N + 3) w' ∧ DiskR L' N g (freshS n) ∧ (∀ j, j < N → L' j = L j) ∧ Below base w w' := by
  have HM := Aside0.mk h
  have HBS := Aside0.mk hbase
  clear h hbase
  have q1 : ((n : Int) < 1) = False := eq_false (by omega)
  have q2 : ((8192 : Int) < (n : Int)) = False := eq_false (by omega)
  have hms : ∀ W : World, (Instr.makeSlice 68 (.int .i64 512) (.int .i64 512)).run Try.prog W = .ok (.slice (some ⟨W.heap.size, 0, none⟩) 512 512) (W.alloc (.cells (madeCells #[.int .u8 0] 512) 5)) := print_make 68 5 .u8 1 Try.underlying68 (by kernel_rfl) (by decide) 512 (by decide)
  have hcv := zeros_made
  obtain ⟨z, hz⟩ : ∃ z, z = Z := ⟨_, rfl⟩
  rw [← hz] at hcv
  have HZE := Aside0.mk hz
  clear hz
  go_enter Try.func22, Try.ntmps22
  go_upto_region 4 with (fail)
  have hal0 := below_alloc (Below.refl w.heap.size w) (.cells (madeCells #[.int .u8 0] 512) 5)
  have M1 := Aside0.mk (many_below HM.out hal0)
  have B1 := Aside0.mk (below_then (below_refl_at w base) HBS.out hal0)
  clear hal0 hms hcv
  generalize w.alloc (.cells (madeCells #[.int .u8 0] 512) 5) = w1 at M1 B1 ⊢
  go_upto_region 5 with (fail)
  have hal := below_alloc (Below.refl w1.heap.size w1) (.cells #[.slice none 0 0, .slice none 0 0, .bool false, .bool false, .int .i64 0] 75)
  have hb1 := Nat.le_trans HBS.out B1.out.size
  obtain ⟨L2, m2, d2, _, _, e2⟩ := many_diskr M1.out hb1 false false 0
  have M2 := Aside0.mk m2
  have B2 := Aside0.mk (below_then B1.out hb1 hal)
  clear m2 hal
  obtain ⟨g, hg⟩ : ∃ g, g = w1.heap.size := ⟨_, rfl⟩
  have PG : (Value.pointer (some ⟨w1.heap.size, 0, none⟩)) = .pointer (some ⟨g, 0, none⟩) := by rw [hg]
  rw [PG]
  rw [← hg] at d2 hb1
  have D2 := Aside0.mk d2
  have E2 := Aside0.mk e2
  generalize w1.alloc (.cells #[.slice none 0 0, .slice none 0 0, .bool false, .bool false, .int .i64 0] 75) = w2 at M2 B2 ⊢
  clear hg PG d2 e2 M1 B1
  go_wp2
  go_loopw [6] (fun v6 W => ∃ (k : Nat) (L3 : Nat → Sl), k ≤ n ∧ v6 = .int .i64 k ∧ Aside0 (Many base L3 (N + 3) W) ∧ Aside0 (DiskR L3 N g { seen := [], safe := List.replicate k z, pend := [], fall := 0, off := false, opn := false }) ∧ Aside0 (∀ j, j < N → L3 j = L j) ∧ Aside0 (Below base w W)) (fun v6 _ => n - (intOf v6).toNat)
  case atStart => exact ⟨0, L2, Nat.zero_le _, rfl, M2, D2, E2, B2⟩
  case round =>
    clear M2 D2 E2 B2
    obtain ⟨k, L3, hk, rfl, M3, D3, E3, B3⟩ := hrel
    have hB3 := Nat.le_trans HBS.out B3.out.size
    by_cases hlt : k < n
    · have q3 : ((k : Int) < (n : Int)) = True := eq_true (by omega)
      obtain ⟨⟨A0, c0, h0, hv0, _⟩, _, _, _, _, _, hfz⟩ := diskr_cells M3.out D3.out (by omega)
      have hz0 := hfz 0 (by decide)
      rw [hv0.symm] at h0
      obtain ⟨v', w4, hr, M4, B4⟩ := many_grow 61 9 1 16 (.string ByteArray.empty) Try.underlying61 infoS rfl (by decide) (by decide) M3.out (N + 1) (by omega) _ _ _ D3.out.2.1 [.string z] rfl (fun q hq => by rw [List.mem_singleton.1 hq]; rfl) B3.out hB3 (by rw [List.length_replicate]; omega)
      obtain ⟨A5, c5, e5, _⟩ := many_val M4 (N + 1) (by omega)
      rw [upd_at] at e5
      obtain ⟨m5, hm5⟩ : ∃ m5, m5 = (List.replicate k z).length + 1 := ⟨_, rfl⟩
      have e5' : v' = .slice A5 m5 c5 := by rw [hm5]; exact e5
      subst e5'
      obtain ⟨h4', hz4, _⟩ := obj_cell M4 N (by omega) g 75 _ (by rw [upd_ne (by omega)]; exact D3.out.1) 0 (by show 0 < 5; decide)
      have M5 := obj_set M4 N (by omega) g 75 _ (by rw [upd_ne (by omega)]; exact D3.out.1) 0 (.slice A5 m5 c5)
      rw [ssl_snoc] at M5
      obtain ⟨D5, E5⟩ := diskr_safe_new D3.out (.slice A5 m5 c5) (List.replicate k z ++ [z])
      have hrp : List.replicate k z ++ [z] = List.replicate (k + 1) z := (List.replicate_succ').symm
      rw [hrp] at M5 D5 E5
      have HR := Aside0.mk hr
      have M5a := Aside0.mk M5
      have D5a := Aside0.mk D5
      have E5a : Aside0 (∀ j, j < N → _ = L j) := ⟨fun j hj => (E5 j (.inl hj)).trans (E3.out j hj)⟩
      have B5 := Aside0.mk (B4.setCell (p := ⟨g, 0, none⟩) (by exact hb1) (.slice A5 m5 c5))
      clear M4 M5 D5 E5 hr hv0 B4 hm5 e5 hrp
      go_wp2_with (first
        | ((with_reducible refine gate_dst (N := 29) rfl ?_); go_loud (refine Kd.event_run rfl (exec_append (t := 61) (.tmp 26) (.tmp 28) rfl rfl _ _ rfl rfl HR.out) ?_)))
      exact ⟨⟨k + 1, _, by omega, by go_num, M5a, D5a, E5a, B5⟩, by simp [intOf]; omega⟩
    · have q3 : ((k : Int) < (n : Int)) = False := eq_false (by omega)
      obtain rfl : k = n := by omega
      go_wp2
      go_ret2
      exact ⟨g, L3, rfl, M3.out, diskr_seen D3.out (by unfold freshS; rw [HZE.out]) rfl rfl rfl rfl, E3.out, B3.out⟩
theorem many_app {base : Nat} {L : Nat → Sl} {N : Nat} {W : World} (tt e sz by_ : Nat) (z : Value) (hu : Try.prog.underlying tt = some (.slice e)) (hinf : (Try.prog.info? e).map (fun i => (i.zero, i.size, i.bytes)) = some (some z, sz, by_)) (hzs : z.cells.size = sz) (hsz : 0 < sz) (hby : by_ ≤ 64)
    (h : Many base L N W) (t : Nat) (ht : t < N) (v : Value) (n : Nat) (xs : List Value) (hL : L t = ⟨v, e, sz, n, xs⟩) (h1 : ∀ q ∈ xs, q.oneCell' = true) (hl : n ≤ 549755813888) :
    ∃ v' W', (Builtin.append_ #[tt, tt] tt #[.slice none 0 0, v]).run Try.prog W = .ok v' W' ∧ W'.ownsRow W.heap.size e sz v' n xs ∧ Below W.heap.size W W' := by
  obtain ⟨i0, hi, hzz⟩ := Option.map_eq_some_iff.1 hinf
  simp only [Prod.mk.injEq] at hzz
  obtain ⟨hz0, hz1, hz2⟩ := hzz
  have ho : W.ownsRow base e sz v n xs := by
    have := h.1 t ht
    unfold Sl.here at this
    rw [hL] at this
    exact this
  rcases ho.2 with ⟨rfl, rfl⟩ | ⟨g, cap, cur, rfl, hbg, hg, hnc, hcm, hcs, htake⟩
  · have hx : xs = [] := List.eq_nil_of_length_eq_zero (by simpa using ho.1)
    subst hx
    refine ⟨_, W, run_append_owned_none (P := Try.prog) W W.heap.size tt tt e i0 sz hu hi (.slice none 0 0) 0 [] (World.ownsRow_nil _ _ _ _), World.ownsRow_nil _ _ _ _, Below.refl _ _⟩
  · obtain ⟨v', W', r1, r2, r3, _, _⟩ := run_append_own_at (P := Try.prog) W W.heap.size tt tt e i0 z sz by_ hu hi hz0 hz1 hz2 hzs hsz (.slice none 0 0) 0 [] (World.ownsRow_nil _ _ _ _) ⟨g, 0, none⟩ n cap xs ho.1 (fun j q hj => ho.cells (g := g) rfl j q hj) h1 (by simp only [maxLen]; omega) (by
      have : (0 + n) * by_ ≤ (0 + n) * 64 := Nat.mul_le_mul_left _ hby
      omega) (Nat.le_refl _)
    rw [Nat.zero_add, List.nil_append] at r2
    exact ⟨v', W', r1, r2, (Below.refl _ _).grown r3 (Nat.le_refl _) (fun k hk => by cases hk)⟩
theorem ssl_one (xs : List ByteArray) : ∀ q ∈ xs.map Value.string, q.oneCell' = true := fun q hq => by
  obtain ⟨x, _, rfl⟩ := List.mem_map.1 hq
  rfl
theorem wcs_one (ps : List (Int × ByteArray)) : ∀ q ∈ wcs ps, q.oneCell' = true := fun q hq => by
  obtain ⟨p, _, hp⟩ := List.mem_flatMap.1 hq
  simp only [wc, List.mem_cons, List.not_mem_nil, or_false] at hp
  rcases hp with rfl | rfl <;> rfl
theorem info73s : (Try.prog.info? 73).map (·.size) = some 1 := by kernel_rfl
set_option maxHeartbeats 8000000 in
set_option maxRecDepth 100000 in
theorem rcopy_calls {base : Nat} {L : Nat → Sl} {N i g : Nat} {s : DS} {w : World} (h : Many base L N w) (hd : DiskR L i g s) (hi : i + 3 ≤ N) (hbase : base ≤ w.heap.size) (h2 : s.safe.length ≤ 549755813888) (h3 : s.pend.length ≤ 549755813888) :
    Calls Try.prog 23 #[.pointer (some ⟨g, 0, none⟩)] w fun e w' => ∃ g' L', e = .returned (.pointer (some ⟨g', 0, none⟩)) ∧ Many base L' (N + 3) w' ∧ DiskR L' N g' s ∧ (∀ j, j < N → L' j = L j) ∧ Below base w w' := by
  obtain ⟨⟨A1, c1, k0, v1e, _⟩, ⟨A2, c2, k1, v2e, _⟩, k2, k3, k4, _, _⟩ := diskr_cells h hd hi
  have HM := Aside0.mk h
  have HD := Aside0.mk hd
  have HBS := Aside0.mk hbase
  have V1 := Aside0.mk v1e
  have V2 := Aside0.mk v2e
  have K2 := Aside0.mk k2
  have K3 := Aside0.mk k3
  have K4 := Aside0.mk k4
  clear h hd v1e v2e k0 k1 k2 k3 k4
  go_enter Try.func23, Try.ntmps23
  go_upto_region 1 with (fail)
  refine start_ (n := 15) (S := fun W => Below w.heap.size w W) (ds := []) #[false, false, false, false, false, false, false, false, false, false, false, false, false, false, false] (by kernel_rfl) rfl rfl (below_drew1 (Below.refl _ _)) (fun hHeld => ?_); refine with_tabW drp.tab1 drp.bits1 (fun HT_ HW_ => ?_)
  generalize World.drew _ = wR at hHeld ⊢
  refine pure_ (i := 0) (N := some 4) (v := ?_) (a' := ?_) #[true, false, false, false, false, false, false, false, false, false, false, false, false, false, false] rfl rfl (any_of HT_.out (by kernel_rfl)) (fun _ _ _ h => h) (Or.inl ⟨by rfl, ?_⟩) ?_ ?_
  rotate_left
  · intro w'
    go_simp
    with_reducible rfl
  rotate_left
  · simp only [Act.put, List.setIfInBounds_toArray, List.set_cons_zero, List.set_cons_succ, i64_w, i32_w]
    rfl
  refine pure_ (i := 1) (N := some 5) (v := ?_) (a' := ?_) #[true, true, false, false, false, false, false, false, false, false, false, false, false, false, false] rfl rfl (any_of HT_.out (by kernel_rfl)) (fun _ _ _ h => h) (Or.inl ⟨by rfl, ?_⟩) ?_ ?_
  rotate_left
  · intro w'
    go_simp
    with_reducible rfl
  rotate_left
  · simp only [Act.put, List.setIfInBounds_toArray, List.set_cons_zero, List.set_cons_succ, i64_w, i32_w]
    rfl
  refine pure_ (i := 2) (N := some 6) (v := ?_) (a' := ?_) #[true, true, true, false, false, false, false, false, false, false, false, false, false, false, false] rfl rfl (any_of HT_.out (by kernel_rfl)) (fun _ _ _ h => h) (Or.inl ⟨by rfl, ?_⟩) ?_ ?_
  rotate_left
  · intro w'
    go_simp
    with_reducible rfl
  rotate_left
  · simp only [Act.put, List.setIfInBounds_toArray, List.set_cons_zero, List.set_cons_succ, i64_w, i32_w]
    rfl
  refine take_ (i := 3) (N := some 7) (v := ?_) (a' := ?_) #[true, true, true, true, false, false, false, false, false, false, false, false, false, false, false] rfl rfl (take_ofW HT_.out HW_.out (by kernel_rfl)) (fun _ _ _ h => h) (Or.inl ⟨by rfl, ?_⟩) hHeld ?_ ?_
  rotate_left
  · rintro w' s0
    have hK := below_cell' s0 K2.out
    go_simp
    with_reducible rfl
  rotate_left
  · simp only [Act.put, List.setIfInBounds_toArray, List.set_cons_zero, List.set_cons_succ, i64_w, i32_w]
    rfl
  refine pure_ (i := 4) (N := some 8) (v := ?_) (a' := ?_) #[true, true, true, true, true, false, false, false, false, false, false, false, false, false, false] rfl rfl (any_of HT_.out (by kernel_rfl)) (fun _ _ _ h => h) (Or.inl ⟨by rfl, ?_⟩) ?_ ?_
  rotate_left
  · intro w'
    go_simp
    with_reducible rfl
  rotate_left
  · simp only [Act.put, List.setIfInBounds_toArray, List.set_cons_zero, List.set_cons_succ, i64_w, i32_w]
    rfl
  refine pure_ (i := 5) (N := some 9) (v := ?_) (a' := ?_) #[true, true, true, true, true, true, false, false, false, false, false, false, false, false, false] rfl rfl (any_of HT_.out (by kernel_rfl)) (fun _ _ _ h => h) (Or.inl ⟨by rfl, ?_⟩) ?_ ?_
  rotate_left
  · intro w'
    go_simp
    with_reducible rfl
  rotate_left
  · simp only [Act.put, List.setIfInBounds_toArray, List.set_cons_zero, List.set_cons_succ, i64_w, i32_w]
    rfl
  refine pure_ (i := 6) (N := some 10) (v := ?_) (a' := ?_) #[true, true, true, true, true, true, true, false, false, false, false, false, false, false, false] rfl rfl (any_of HT_.out (by kernel_rfl)) (fun _ _ _ h => h) (Or.inl ⟨by rfl, ?_⟩) ?_ ?_
  rotate_left
  · intro w'
    go_simp
    with_reducible rfl
  rotate_left
  · simp only [Act.put, List.setIfInBounds_toArray, List.set_cons_zero, List.set_cons_succ, i64_w, i32_w]
    rfl
  refine take_ (i := 7) (N := some 11) (v := ?_) (a' := ?_) #[true, true, true, true, true, true, true, true, false, false, false, false, false, false, false] rfl rfl (take_ofW HT_.out HW_.out (by kernel_rfl)) (fun _ _ _ h => h) (Or.inl ⟨by rfl, ?_⟩) hHeld ?_ ?_
  rotate_left
  · rintro w' s0
    have hK := below_cell' s0 K3.out
    go_simp
    with_reducible rfl
  rotate_left
  · simp only [Act.put, List.setIfInBounds_toArray, List.set_cons_zero, List.set_cons_succ, i64_w, i32_w]
    rfl
  refine pure_ (i := 8) (N := some 12) (v := ?_) (a' := ?_) #[true, true, true, true, true, true, true, true, true, false, false, false, false, false, false] rfl rfl (any_of HT_.out (by kernel_rfl)) (fun _ _ _ h => h) (Or.inl ⟨by rfl, ?_⟩) ?_ ?_
  rotate_left
  · intro w'
    go_simp
    with_reducible rfl
  rotate_left
  · simp only [Act.put, List.setIfInBounds_toArray, List.set_cons_zero, List.set_cons_succ, i64_w, i32_w]
    rfl
  refine pure_ (i := 9) (N := some 13) (v := ?_) (a' := ?_) #[true, true, true, true, true, true, true, true, true, true, false, false, false, false, false] rfl rfl (any_of HT_.out (by kernel_rfl)) (fun _ _ _ h => h) (Or.inl ⟨by rfl, ?_⟩) ?_ ?_
  rotate_left
  · intro w'
    go_simp
    with_reducible rfl
  rotate_left
  · simp only [Act.put, List.setIfInBounds_toArray, List.set_cons_zero, List.set_cons_succ, i64_w, i32_w]
    rfl
  refine pure_ (i := 10) (N := some 14) (v := ?_) (a' := ?_) #[true, true, true, true, true, true, true, true, true, true, true, false, false, false, false] rfl rfl (any_of HT_.out (by kernel_rfl)) (fun _ _ _ h => h) (Or.inl ⟨by rfl, ?_⟩) ?_ ?_
  rotate_left
  · intro w'
    go_simp
    with_reducible rfl
  rotate_left
  · simp only [Act.put, List.setIfInBounds_toArray, List.set_cons_zero, List.set_cons_succ, i64_w, i32_w]
    rfl
  refine take_ (i := 11) (N := some 15) (v := ?_) (a' := ?_) #[true, true, true, true, true, true, true, true, true, true, true, true, false, false, false] rfl rfl (take_ofW HT_.out HW_.out (by kernel_rfl)) (fun _ _ _ h => h) (Or.inl ⟨by rfl, ?_⟩) hHeld ?_ ?_
  rotate_left
  · rintro w' s0
    have hK := below_cell' s0 K4.out
    go_simp
    with_reducible rfl
  rotate_left
  · simp only [Act.put, List.setIfInBounds_toArray, List.set_cons_zero, List.set_cons_succ, i64_w, i32_w]
    rfl
  refine pure_ (i := 12) (N := some 16) (v := ?_) (a' := ?_) #[true, true, true, true, true, true, true, true, true, true, true, true, true, false, false] rfl rfl (any_of HT_.out (by kernel_rfl)) (fun _ _ _ h => h) (Or.inl ⟨by rfl, ?_⟩) ?_ ?_
  rotate_left
  · intro w'
    go_simp
    with_reducible rfl
  rotate_left
  · simp only [Act.put, List.setIfInBounds_toArray, List.set_cons_zero, List.set_cons_succ, i64_w, i32_w]
    rfl
  refine one_ (i := 13) (N := some 17) #[true, true, true, true, true, true, true, true, true, true, true, true, true, true, false] rfl rfl (one_of HT_.out (by kernel_rfl)) (by decide) (fun K hK => ?_)
  refine value_ (w1 := ?_) (v := ?_) (by rfl) rfl ?_ ?_
  rotate_left 2
  · go_simp
    constructor
    · rfl
    · rfl
  have hR0 := Nat.le_trans HBS.out hHeld.size
  obtain ⟨L5, m5, d5, n1, n2, e5⟩ := many_diskr (many_below HM.out hHeld) hR0 s.off s.opn s.fall
  have B5 := (below_then (below_refl_at w base) HBS.out hHeld).alloc hR0 (.cells #[.slice none 0 0, .slice none 0 0, .bool s.off, .bool s.opn, .int .i64 s.fall] 75)
  refine hK.out _ _ (hHeld.alloc hHeld.size _) (fun hHeld => ?_)
  clear hK K
  refine norm_ (a' := ?_) ?_ ?_
  rotate_left
  · show Act.put _ (some 17) _ = _
    simp only [Act.put, List.setIfInBounds_toArray, List.set_cons_zero, List.set_cons_succ, i64_w, i32_w]
    rfl
  refine pure_ (i := 14) (N := some 3) (v := ?_) (a' := ?_) #[true, true, true, true, true, true, true, true, true, true, true, true, true, true, true] rfl rfl (any_of HT_.out (by kernel_rfl)) (fun _ _ _ h => h) (Or.inl ⟨by rfl, ?_⟩) ?_ ?_
  rotate_left
  · intro w'
    go_simp
    with_reducible rfl
  rotate_left
  · simp only [Act.put, List.setIfInBounds_toArray, List.set_cons_zero, List.set_cons_succ, i64_w, i32_w]
    rfl
  refine done_ (done_of HT_.out (by kernel_rfl)) ?_
  clear hHeld HM K2 K3 K4
  obtain ⟨g5, hg5⟩ : ∃ g5, g5 = wR.heap.size := ⟨_, rfl⟩
  have P5 : (Value.pointer (some ⟨wR.heap.size, 0, none⟩)) = .pointer (some ⟨g5, 0, none⟩) := by rw [hg5]
  rw [P5]
  rw [← hg5] at d5 hR0
  have M5 := Aside0.mk m5
  have D5 := Aside0.mk d5
  have N1 := Aside0.mk n1
  have N2 := Aside0.mk n2
  have E5 := Aside0.mk e5
  have B5a := Aside0.mk B5
  generalize wR.alloc (.cells #[.slice none 0 0, .slice none 0 0, .bool s.off, .bool s.opn, .int .i64 s.fall] 75) = w5 at M5 B5a ⊢
  clear m5 d5 n1 n2 e5 B5 P5 hg5
  have hb5 := Nat.le_trans HBS.out B5a.out.size
  have DO : Aside0 (DiskR L5 i g s) := ⟨by
    obtain ⟨a0, a1, a2⟩ := HD.out
    exact ⟨by rw [E5.out i (by omega), E5.out (i + 1) (by omega), E5.out (i + 2) (by omega)]; exact a0, by rw [E5.out (i + 1) (by omega)]; exact a1, by rw [E5.out (i + 2) (by omega)]; exact a2⟩⟩
  have HS1 : Aside0 (L5 (i + 1) = ssl (.slice A1 s.safe.length c1) s.safe) := ⟨by rw [E5.out (i + 1) (by omega), ← V1.out]; exact HD.out.2.1⟩
  have HS2 : Aside0 (L5 (i + 2) = wsl 89 (.slice A2 s.pend.length c2) s.pend) := ⟨by rw [E5.out (i + 2) (by omega), ← V2.out]; exact HD.out.2.2⟩
  obtain ⟨⟨A1', c1', k0, v1e, _⟩, _⟩ := diskr_cells M5.out DO.out (by omega)
  rw [← v1e, E5.out (i + 1) (by omega), V1.out] at k0
  obtain ⟨⟨A5, c5, y0, v5e, _⟩, _⟩ := diskr_cells M5.out D5.out (by omega)
  rw [← v5e, N1.out] at y0
  have KS := Aside0.mk k0
  have KC := Aside0.mk y0
  clear k0 v1e y0 v5e
  go_upto_region 2 with (fail)
  refine start_ (n := 13) (S := fun W => Below w5.heap.size w5 W) (ds := [12]) #[false, false, false, false, false, false, false, false, false, false, false, false, false] (by kernel_rfl) rfl rfl (below_drew1 (Below.refl _ _)) (fun hHeld => ?_); refine with_tabW drp.tab2 drp.bits2 (fun HT_ HW_ => ?_)
  generalize World.drew _ = wR at hHeld ⊢
  refine pure_ (i := 0) (N := some 18) (v := ?_) (a' := ?_) #[true, false, false, false, false, false, false, false, false, false, false, false, false] rfl rfl (any_of HT_.out (by kernel_rfl)) (fun _ _ _ h => h) (Or.inl ⟨by rfl, ?_⟩) ?_ ?_
  rotate_left
  · intro w'
    go_simp
    with_reducible rfl
  rotate_left
  · simp only [Act.put, List.setIfInBounds_toArray, List.set_cons_zero, List.set_cons_succ, i64_w, i32_w]
    rfl
  refine pure_ (i := 1) (N := some 19) (v := ?_) (a' := ?_) #[true, true, false, false, false, false, false, false, false, false, false, false, false] rfl rfl (any_of HT_.out (by kernel_rfl)) (fun _ _ _ h => h) (Or.inl ⟨by rfl, ?_⟩) ?_ ?_
  rotate_left
  · intro w'
    go_simp
    with_reducible rfl
  rotate_left
  · simp only [Act.put, List.setIfInBounds_toArray, List.set_cons_zero, List.set_cons_succ, i64_w, i32_w]
    rfl
  refine pure_ (i := 2) (N := some 20) (v := ?_) (a' := ?_) #[true, true, true, false, false, false, false, false, false, false, false, false, false] rfl rfl (any_of HT_.out (by kernel_rfl)) (fun _ _ _ h => h) (Or.inl ⟨by rfl, ?_⟩) ?_ ?_
  rotate_left
  · intro w'
    go_simp
    with_reducible rfl
  rotate_left
  · simp only [Act.put, List.setIfInBounds_toArray, List.set_cons_zero, List.set_cons_succ, i64_w, i32_w]
    rfl
  refine pure_ (i := 3) (N := some 21) (v := ?_) (a' := ?_) #[true, true, true, true, false, false, false, false, false, false, false, false, false] rfl rfl (any_of HT_.out (by kernel_rfl)) (fun _ _ _ h => h) (Or.inl ⟨by rfl, ?_⟩) ?_ ?_
  rotate_left
  · intro w'
    go_simp
    with_reducible rfl
  rotate_left
  · simp only [Act.put, List.setIfInBounds_toArray, List.set_cons_zero, List.set_cons_succ, i64_w, i32_w]
    rfl
  refine take_ (i := 4) (N := some 22) (v := ?_) (a' := ?_) #[true, true, true, true, true, false, false, false, false, false, false, false, false] rfl rfl (take_ofW HT_.out HW_.out (by kernel_rfl)) (fun _ _ _ h => h) (Or.inl ⟨by rfl, ?_⟩) hHeld ?_ ?_
  rotate_left
  · rintro w' s0
    have hK := below_cell' s0 KC.out
    go_simp
    with_reducible rfl
  rotate_left
  · simp only [Act.put, List.setIfInBounds_toArray, List.set_cons_zero, List.set_cons_succ, i64_w, i32_w]
    rfl
  refine pure_ (i := 5) (N := some 23) (v := ?_) (a' := ?_) #[true, true, true, true, true, true, false, false, false, false, false, false, false] rfl rfl (any_of HT_.out (by kernel_rfl)) (fun _ _ _ h => h) (Or.inl ⟨by rfl, ?_⟩) ?_ ?_
  rotate_left
  · intro w'
    go_simp
    with_reducible rfl
  rotate_left
  · simp only [Act.put, List.setIfInBounds_toArray, List.set_cons_zero, List.set_cons_succ, i64_w, i32_w]
    rfl
  refine pure_ (i := 6) (N := some 24) (v := ?_) (a' := ?_) #[true, true, true, true, true, true, true, false, false, false, false, false, false] rfl rfl (any_of HT_.out (by kernel_rfl)) (fun _ _ _ h => h) (Or.inl ⟨by rfl, ?_⟩) ?_ ?_
  rotate_left
  · intro w'
    go_simp
    with_reducible rfl
  rotate_left
  · simp only [Act.put, List.setIfInBounds_toArray, List.set_cons_zero, List.set_cons_succ, i64_w, i32_w]
    rfl
  refine pure_ (i := 7) (N := some 25) (v := ?_) (a' := ?_) #[true, true, true, true, true, true, true, true, false, false, false, false, false] rfl rfl (any_of HT_.out (by kernel_rfl)) (fun _ _ _ h => h) (Or.inl ⟨by rfl, ?_⟩) ?_ ?_
  rotate_left
  · intro w'
    go_simp
    with_reducible rfl
  rotate_left
  · simp only [Act.put, List.setIfInBounds_toArray, List.set_cons_zero, List.set_cons_succ, i64_w, i32_w]
    rfl
  refine take_ (i := 8) (N := some 26) (v := ?_) (a' := ?_) #[true, true, true, true, true, true, true, true, true, false, false, false, false] rfl rfl (take_ofW HT_.out HW_.out (by kernel_rfl)) (fun _ _ _ h => h) (Or.inl ⟨by rfl, ?_⟩) hHeld ?_ ?_
  rotate_left
  · rintro w' s0
    have hK := below_cell' s0 KS.out
    go_simp
    with_reducible rfl
  rotate_left
  · simp only [Act.put, List.setIfInBounds_toArray, List.set_cons_zero, List.set_cons_succ, i64_w, i32_w]
    rfl
  refine one_ (i := 9) (N := some 27) #[true, true, true, true, true, true, true, true, true, true, false, false, false] rfl rfl (one_of HT_.out (by kernel_rfl)) (by decide) (fun K hK => ?_)
  obtain ⟨v1, wa, hr1, ho1, hb1⟩ := many_app 61 9 1 16 (.string ByteArray.empty) Try.underlying61 infoS rfl (by decide) (by decide) (many_below M5.out hHeld) (i + 1) (by omega) _ _ _ HS1.out (ssl_one _) h2
  refine value_ (by rfl) rfl (exec_append (t := 61) (.tmp 22) (.tmp 26) rfl rfl _ _ rfl rfl hr1) ?_
  have Ma := many_put2 (many_below M5.out hHeld) (N + 1) (by omega) (ssl v1 s.safe) hb1 (own_lower ho1 (Nat.le_trans hb5 hHeld.size)) (fun k hk => (ho1.lt k hk).1)
  obtain ⟨Av, cv, e9, _⟩ := many_val Ma (N + 1) (by omega)
  rw [upd_at] at e9
  obtain ⟨nv, hn9⟩ : ∃ n, n = s.safe.length := ⟨_, rfl⟩
  have f9 : v1 = .slice Av nv cv := by rw [hn9]; exact e9
  subst f9
  have hb2 := below_then hHeld hHeld.size hb1
  refine hK.out _ _ hb2 (fun hHeld => ?_)
  clear hK K
  refine norm_ (a' := ?_) ?_ ?_
  rotate_left
  · show Act.put _ (some 27) _ = _
    simp only [Act.put, List.setIfInBounds_toArray, List.set_cons_zero, List.set_cons_succ, i64_w, i32_w]
    rfl
  clear hb2 hb1 hr1 ho1 e9 hn9
  refine pure_ (i := 10) (N := some 28) (v := ?_) (a' := ?_) #[true, true, true, true, true, true, true, true, true, true, true, false, false] rfl rfl (any_of HT_.out (by kernel_rfl)) (fun _ _ _ h => h) (Or.inl ⟨by rfl, ?_⟩) ?_ ?_
  rotate_left
  · intro w'
    go_simp
    with_reducible rfl
  rotate_left
  · simp only [Act.put, List.setIfInBounds_toArray, List.set_cons_zero, List.set_cons_succ, i64_w, i32_w]
    rfl
  refine pure_ (i := 11) (N := some 29) (v := ?_) (a' := ?_) #[true, true, true, true, true, true, true, true, true, true, true, true, false] rfl rfl (any_of HT_.out (by kernel_rfl)) (fun _ _ _ h => h) (Or.inl ⟨by rfl, ?_⟩) ?_ ?_
  rotate_left
  · intro w'
    go_simp
    with_reducible rfl
  rotate_left
  · simp only [Act.put, List.setIfInBounds_toArray, List.set_cons_zero, List.set_cons_succ, i64_w, i32_w]
    rfl
  obtain ⟨cur, hcu, hcs⟩ := obj_blk Ma N (by omega) g5 75 _ (by rw [upd_ne (by omega)]; exact D5.out.1) 0 (by show 0 < 5; decide)
  refine last_ (i := 12) (N := none) #[true, true, true, true, true, true, true, true, true, true, true, true, true] rfl rfl (one_of HT_.out (by kernel_rfl)) (by decide) (fun K hK => ?_)
  refine wp_store_cell info61s (.tmp 29) (.tmp 27) rfl g5 0 cur 75 (.slice Av nv cv) rfl rfl hcu hcs rfl ?_
  refine hK.out _ _ ?_
  clear hK K
  refine norm_ (a' := ?_) ?_ ?_
  rotate_left
  · show Act.put _ (none) _ = _
    simp only [Act.put]
    rfl
  refine done_ (done_of HT_.out (by kernel_rfl)) ?_
  have M6 := Aside0.mk (obj_set Ma N (by omega) g5 75 _ (by rw [upd_ne (by omega)]; exact D5.out.1) 0 (.slice Av nv cv))
  obtain ⟨D6a, E6a⟩ := diskr_safe_new D5.out (.slice Av nv cv) s.safe
  have D6 := Aside0.mk D6a
  have N6 : Aside0 ((upd (upd L5 (N + 1) (ssl (.slice Av nv cv) s.safe)) N (osl g5 75 ([(L5 (N + 1)).v, (L5 (N + 2)).v, .bool s.off, .bool s.opn, .int .i64 s.fall].set 0 (.slice Av nv cv))) (N + 2)).v = .slice none 0 0) := ⟨by rw [upd_ne (by omega), upd_ne (by omega)]; exact N2.out⟩
  have B6 := Aside0.mk ((below_then B5a.out hb5 hHeld).setCell (p := ⟨g5, 0, none⟩) (by exact hR0) (.slice Av nv cv))
  have E6 : Aside0 (∀ j, j < N → upd (upd L5 (N + 1) (ssl (.slice Av nv cv) s.safe)) N (osl g5 75 ([(L5 (N + 1)).v, (L5 (N + 2)).v, .bool s.off, .bool s.opn, .int .i64 s.fall].set 0 (.slice Av nv cv))) j = L5 j) := ⟨fun j hj => E6a j (.inl hj)⟩
  generalize upd (upd L5 (N + 1) (ssl (.slice Av nv cv) s.safe)) N (osl g5 75 ([(L5 (N + 1)).v, (L5 (N + 2)).v, .bool s.off, .bool s.opn, .int .i64 s.fall].set 0 (.slice Av nv cv))) = L6 at M6 D6 N6 E6
  generalize World.setCell _ _ _ = w6 at M6 B6 ⊢
  clear Ma D6a E6a hcu hcs hHeld KS KC M5 D5 N1 N2 DO HS1
  have hb6 := Nat.le_trans HBS.out B6.out.size
  have DO : Aside0 (DiskR L6 i g s) := ⟨by
    obtain ⟨a0, a1, a2⟩ := HD.out
    exact ⟨by rw [E6.out i (by omega), E6.out (i + 1) (by omega), E6.out (i + 2) (by omega), E5.out i (by omega), E5.out (i + 1) (by omega), E5.out (i + 2) (by omega)]; exact a0, by rw [E6.out (i + 1) (by omega), E5.out (i + 1) (by omega)]; exact a1, by rw [E6.out (i + 2) (by omega), E5.out (i + 2) (by omega)]; exact a2⟩⟩
  have HS6 : Aside0 (L6 (i + 2) = wsl 89 (.slice A2 s.pend.length c2) s.pend) := ⟨by rw [E6.out (i + 2) (by omega)]; exact HS2.out⟩
  obtain ⟨_, ⟨A2', c2', k0, v1e, _⟩, _⟩ := diskr_cells M6.out DO.out (by omega)
  rw [← v1e, HS6.out] at k0
  replace k0 : _ = some (Value.slice A2 s.pend.length c2) := k0
  obtain ⟨_, ⟨A5', c5', y0, v5e, _⟩, _⟩ := diskr_cells M6.out D6.out (by omega)
  rw [← v5e, N6.out] at y0
  have KS := Aside0.mk k0
  have KC := Aside0.mk y0
  clear k0 v1e y0 v5e
  go_upto_region 3 with (fail)
  refine start_ (n := 13) (S := fun W => Below w6.heap.size w6 W) (ds := [12]) #[false, false, false, false, false, false, false, false, false, false, false, false, false] (by kernel_rfl) rfl rfl (below_drew1 (Below.refl _ _)) (fun hHeld => ?_); refine with_tabW drp.tab3 drp.bits3 (fun HT_ HW_ => ?_)
  generalize World.drew _ = wR at hHeld ⊢
  refine pure_ (i := 0) (N := some 30) (v := ?_) (a' := ?_) #[true, false, false, false, false, false, false, false, false, false, false, false, false] rfl rfl (any_of HT_.out (by kernel_rfl)) (fun _ _ _ h => h) (Or.inl ⟨by rfl, ?_⟩) ?_ ?_
  rotate_left
  · intro w'
    go_simp
    with_reducible rfl
  rotate_left
  · simp only [Act.put, List.setIfInBounds_toArray, List.set_cons_zero, List.set_cons_succ, i64_w, i32_w]
    rfl
  refine pure_ (i := 1) (N := some 31) (v := ?_) (a' := ?_) #[true, true, false, false, false, false, false, false, false, false, false, false, false] rfl rfl (any_of HT_.out (by kernel_rfl)) (fun _ _ _ h => h) (Or.inl ⟨by rfl, ?_⟩) ?_ ?_
  rotate_left
  · intro w'
    go_simp
    with_reducible rfl
  rotate_left
  · simp only [Act.put, List.setIfInBounds_toArray, List.set_cons_zero, List.set_cons_succ, i64_w, i32_w]
    rfl
  refine pure_ (i := 2) (N := some 32) (v := ?_) (a' := ?_) #[true, true, true, false, false, false, false, false, false, false, false, false, false] rfl rfl (any_of HT_.out (by kernel_rfl)) (fun _ _ _ h => h) (Or.inl ⟨by rfl, ?_⟩) ?_ ?_
  rotate_left
  · intro w'
    go_simp
    with_reducible rfl
  rotate_left
  · simp only [Act.put, List.setIfInBounds_toArray, List.set_cons_zero, List.set_cons_succ, i64_w, i32_w]
    rfl
  refine pure_ (i := 3) (N := some 33) (v := ?_) (a' := ?_) #[true, true, true, true, false, false, false, false, false, false, false, false, false] rfl rfl (any_of HT_.out (by kernel_rfl)) (fun _ _ _ h => h) (Or.inl ⟨by rfl, ?_⟩) ?_ ?_
  rotate_left
  · intro w'
    go_simp
    with_reducible rfl
  rotate_left
  · simp only [Act.put, List.setIfInBounds_toArray, List.set_cons_zero, List.set_cons_succ, i64_w, i32_w]
    rfl
  refine take_ (i := 4) (N := some 34) (v := ?_) (a' := ?_) #[true, true, true, true, true, false, false, false, false, false, false, false, false] rfl rfl (take_ofW HT_.out HW_.out (by kernel_rfl)) (fun _ _ _ h => h) (Or.inl ⟨by rfl, ?_⟩) hHeld ?_ ?_
  rotate_left
  · rintro w' s0
    have hK := below_cell' s0 KC.out
    go_simp
    with_reducible rfl
  rotate_left
  · simp only [Act.put, List.setIfInBounds_toArray, List.set_cons_zero, List.set_cons_succ, i64_w, i32_w]
    rfl
  refine pure_ (i := 5) (N := some 35) (v := ?_) (a' := ?_) #[true, true, true, true, true, true, false, false, false, false, false, false, false] rfl rfl (any_of HT_.out (by kernel_rfl)) (fun _ _ _ h => h) (Or.inl ⟨by rfl, ?_⟩) ?_ ?_
  rotate_left
  · intro w'
    go_simp
    with_reducible rfl
  rotate_left
  · simp only [Act.put, List.setIfInBounds_toArray, List.set_cons_zero, List.set_cons_succ, i64_w, i32_w]
    rfl
  refine pure_ (i := 6) (N := some 36) (v := ?_) (a' := ?_) #[true, true, true, true, true, true, true, false, false, false, false, false, false] rfl rfl (any_of HT_.out (by kernel_rfl)) (fun _ _ _ h => h) (Or.inl ⟨by rfl, ?_⟩) ?_ ?_
  rotate_left
  · intro w'
    go_simp
    with_reducible rfl
  rotate_left
  · simp only [Act.put, List.setIfInBounds_toArray, List.set_cons_zero, List.set_cons_succ, i64_w, i32_w]
    rfl
  refine pure_ (i := 7) (N := some 37) (v := ?_) (a' := ?_) #[true, true, true, true, true, true, true, true, false, false, false, false, false] rfl rfl (any_of HT_.out (by kernel_rfl)) (fun _ _ _ h => h) (Or.inl ⟨by rfl, ?_⟩) ?_ ?_
  rotate_left
  · intro w'
    go_simp
    with_reducible rfl
  rotate_left
  · simp only [Act.put, List.setIfInBounds_toArray, List.set_cons_zero, List.set_cons_succ, i64_w, i32_w]
    rfl
  refine take_ (i := 8) (N := some 38) (v := ?_) (a' := ?_) #[true, true, true, true, true, true, true, true, true, false, false, false, false] rfl rfl (take_ofW HT_.out HW_.out (by kernel_rfl)) (fun _ _ _ h => h) (Or.inl ⟨by rfl, ?_⟩) hHeld ?_ ?_
  rotate_left
  · rintro w' s0
    have hK := below_cell' s0 KS.out
    go_simp
    with_reducible rfl
  rotate_left
  · simp only [Act.put, List.setIfInBounds_toArray, List.set_cons_zero, List.set_cons_succ, i64_w, i32_w]
    rfl
  refine one_ (i := 9) (N := some 39) #[true, true, true, true, true, true, true, true, true, true, false, false, false] rfl rfl (one_of HT_.out (by kernel_rfl)) (by decide) (fun K hK => ?_)
  obtain ⟨v2, wa, hr1, ho1, hb1⟩ := many_app 73 89 2 24 (.agg #[.int .i64 0, .string ByteArray.empty]) Try.underlying73 infoV rfl (by decide) (by decide) (many_below M6.out hHeld) (i + 2) (by omega) _ _ _ HS6.out (wcs_one _) h3
  refine value_ (by rfl) rfl (exec_append (t := 73) (.tmp 34) (.tmp 38) rfl rfl _ _ rfl rfl hr1) ?_
  have Mb := many_put2 (many_below M6.out hHeld) (N + 2) (by omega) (wsl 89 v2 s.pend) hb1 (own_lower ho1 (Nat.le_trans hb6 hHeld.size)) (fun k hk => (ho1.lt k hk).1)
  obtain ⟨Aw, cw, e9, _⟩ := many_val Mb (N + 2) (by omega)
  rw [upd_at] at e9
  obtain ⟨nw, hn9⟩ : ∃ n, n = s.pend.length := ⟨_, rfl⟩
  have f9 : v2 = .slice Aw nw cw := by rw [hn9]; exact e9
  subst f9
  have hb2 := below_then hHeld hHeld.size hb1
  refine hK.out _ _ hb2 (fun hHeld => ?_)
  clear hK K
  refine norm_ (a' := ?_) ?_ ?_
  rotate_left
  · show Act.put _ (some 39) _ = _
    simp only [Act.put, List.setIfInBounds_toArray, List.set_cons_zero, List.set_cons_succ, i64_w, i32_w]
    rfl
  clear hb2 hb1 hr1 ho1 e9 hn9
  refine pure_ (i := 10) (N := some 40) (v := ?_) (a' := ?_) #[true, true, true, true, true, true, true, true, true, true, true, false, false] rfl rfl (any_of HT_.out (by kernel_rfl)) (fun _ _ _ h => h) (Or.inl ⟨by rfl, ?_⟩) ?_ ?_
  rotate_left
  · intro w'
    go_simp
    with_reducible rfl
  rotate_left
  · simp only [Act.put, List.setIfInBounds_toArray, List.set_cons_zero, List.set_cons_succ, i64_w, i32_w]
    rfl
  refine pure_ (i := 11) (N := some 41) (v := ?_) (a' := ?_) #[true, true, true, true, true, true, true, true, true, true, true, true, false] rfl rfl (any_of HT_.out (by kernel_rfl)) (fun _ _ _ h => h) (Or.inl ⟨by rfl, ?_⟩) ?_ ?_
  rotate_left
  · intro w'
    go_simp
    with_reducible rfl
  rotate_left
  · simp only [Act.put, List.setIfInBounds_toArray, List.set_cons_zero, List.set_cons_succ, i64_w, i32_w]
    rfl
  obtain ⟨cur, hcu, hcs⟩ := obj_blk Mb N (by omega) g5 75 _ (by rw [upd_ne (by omega)]; exact D6.out.1) 1 (by show 1 < 5; decide)
  refine last_ (i := 12) (N := none) #[true, true, true, true, true, true, true, true, true, true, true, true, true] rfl rfl (one_of HT_.out (by kernel_rfl)) (by decide) (fun K hK => ?_)
  refine wp_store_cell info73s (.tmp 41) (.tmp 39) rfl g5 1 cur 75 (.slice Aw nw cw) rfl rfl hcu hcs rfl ?_
  refine hK.out _ _ ?_
  clear hK K
  refine norm_ (a' := ?_) ?_ ?_
  rotate_left
  · show Act.put _ (none) _ = _
    simp only [Act.put]
    rfl
  refine done_ (done_of HT_.out (by kernel_rfl)) ?_
  have M7 := obj_set Mb N (by omega) g5 75 _ (by rw [upd_ne (by omega)]; exact D6.out.1) 1 (.slice Aw nw cw)
  obtain ⟨D7, E7⟩ := diskr_pend D6.out (.slice Aw nw cw) s.pend
  have B7 := (below_then B6.out hb6 hHeld).setCell (p := ⟨g5, 1, none⟩) (by exact hR0) (.slice Aw nw cw)
  have M7a := Aside0.mk M7
  have D7a := Aside0.mk D7
  have E7a := Aside0.mk E7
  have B7a := Aside0.mk B7
  clear M7 D7 E7 B7 Mb hcu hcs hHeld KS KC
  go_wp2
  go_ret
  first | exact ⟨g5, rfl, _, M7a.out, diskr_seen D7a.out rfl rfl rfl rfl rfl, fun j hj => ((E7a.out j (.inl hj)).trans (E6.out j hj)).trans (E5.out j hj), B7a.out⟩ | exact ⟨g5, _, rfl, M7a.out, diskr_seen D7a.out rfl rfl rfl rfl rfl, fun j hj => ((E7a.out j (.inl hj)).trans (E6.out j hj)).trans (E5.out j hj), B7a.out⟩
end Go.Proofs.Ytebhmbdblifddaa.Dk
