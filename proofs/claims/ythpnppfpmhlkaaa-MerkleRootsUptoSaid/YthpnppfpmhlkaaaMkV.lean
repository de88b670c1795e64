/- Chapter 3: MerkleRoots, walked. -/
import Derived.Test.YthpnppfpmhlkaaaMkS
import Derived.Test.YthpnppfpmhlkaaaMkG
namespace Go.Proofs.Ythpnppfpmhlkaaa.Sha
open Go.RowKit Go.Proofs.Ythpnppfpmhlkaaa.X Go.Proofs.YthpnppfpmhlkaaaW.PrintWords Go.Proofs.YthpnppfpmhlkaaaW.PrintLast Go.Proofs.YthpnppfpmhlkaaaW.PrintMore
set_option linter.unusedVariables false
set_option linter.unusedSimpArgs false

def mrA.T4 : Bool × List (List Nat × List Nat) := (true, [([], []), ([], []), ([1], [1]), ([0, 2], [0, 2]), ([3, 2], [3]), ([4], [4]), ([4], [4]), ([5, 6, 4], [4, 5, 6]), ([4, 7], [4, 7]), ([8, 4], [8]), ([9], [9]), ([9], [9]), ([10, 11, 9, 9], [9, 10, 11]), ([12, 9], [9, 12]), ([9, 13], [9, 13]), ([14, 12], [14]), ([15], [15]), ([16, 15, 15], [15, 16]), ([15], [15]), ([18, 17, 15], [15, 18]), ([17, 19, 15], [15, 17, 19]), ([15, 20], [15, 20]), ([21, 19], [21]), ([22], [22]), ([22], [22]), ([23, 24, 22, 22], [22, 23, 24]), ([22], [22]), ([22], [22]), ([26, 27, 25, 22], [22, 26, 27]), ([25, 28, 22], [22, 25, 28]), ([22, 29], [22, 29])])
def mrA.B4 : List Nat := [0, 0, 2, 7, 15, 31, 31, 127, 255, 511, 1023, 1023, 4095, 8191, 16383, 32767, 65535, 131071, 65535, 524287, 1048575, 2097151, 4194303, 8388607, 8388607, 33554431, 8388607, 8388607, 268435455, 536870911, 1073741823]
theorem mrA.tab4 : rtab .any (opsOf Try.f3 4) = mrA.T4 := by kernel_rfl
theorem mrA.bits4 : waitsOk mrA.T4.2 mrA.B4 = true := by kernel_rfl
def mrB.T11 : Bool × List (List Nat × List Nat) := (true, [([], []), ([], []), ([1], [1]), ([0, 2], [0, 2]), ([3, 2], [3]), ([4, 4], [4]), ([4, 5], [4, 5]), ([6, 5, 0, 1, 2, 3, 4, 5, 6], [6])])
def mrB.B11 : List Nat := [0, 0, 2, 7, 15, 31, 63, 127]
theorem mrB.tab11 : rtab .any (opsOf Try.f3 11) = mrB.T11 := by kernel_rfl
theorem mrB.bits11 : waitsOk mrB.T11.2 mrB.B11 = true := by kernel_rfl
theorem rroot_agg (A : Option Addr) (cp : Nat) (xs : List ByteArray) (w : World) (hr : Kd.C Kd.string w A xs.length xs) (hcp : xs.length ≤ cp) (hn : xs.length ≤ 1048576) (hsz : ∀ s ∈ xs, s.size ≤ 140737488355000) :
    Calls Try.prog 10 #[.slice A xs.length cp] w fun e w' => e = .returned (.agg (brw 32 (rootF xs))) ∧ Below w.heap.size w w' := by
  have := rroot_calls A cp xs w hr hcp hn hsz
  rw [B32_brw _ (rootF_len xs)] at this
  exact this.mono fun e w' h => ⟨h.1, h.2⟩
theorem rleaf_agg (s : ByteArray) (h : s.size ≤ 140737488355000) (W : World) : Calls Try.prog 13 #[.string s] W fun e w' => e = .returned (.agg (brw 32 (leafF s.data.toList))) ∧ Below W.heap.size W w' := by
  have := rleaf_calls s.data.toList W (by rw [Array.length_toList]; exact h)
  rw [tx_toList, B32_brw _ (leafF_len _)] at this
  exact this
theorem rnode_agg (x y : List UInt8) (hx : x.length = 32) (hy : y.length = 32) (W : World) : Calls Try.prog 15 #[.agg (brw 32 x), .agg (brw 32 y)] W fun e w' => e = .returned (.agg (brw 32 (nodeF x y))) ∧ Below W.heap.size W w' := by
  have := rnode_calls x y hx hy W
  rw [B32_brw _ hx, B32_brw _ hy, B32_brw _ (nodeF_len _ _)] at this
  exact this
theorem lrow_set {g c : Nat} {ys : List ByteArray} {W : World} (h : LRow g c ys W) (i : Nat) (s : ByteArray) (hi : i < ys.length) : LRow g c (ys.set i s) (W.setCell ⟨g, i, none⟩ (.string s)) := by
  obtain ⟨cs, h1, h2, h3, h4, h5⟩ := h
  refine ⟨cs.setIfInBounds i (.string s), blk_put h1 i _ rfl, by rw [Array.size_setIfInBounds]; exact h2, by rw [List.length_set]; exact h3, fun j hj => ?_, ?_⟩
  · rw [List.length_set] at hj
    rw [Array.getElem?_setIfInBounds, List.getD_eq_getElem?_getD, List.getElem?_set]
    by_cases e : i = j
    · subst e
      rw [if_pos rfl, if_pos (by omega), if_pos rfl, if_pos hj]; rfl
    · rw [if_neg e, if_neg e, h4 j hj, List.getD_eq_getElem?_getD]
  · rw [List.length_set, Array.getElem?_setIfInBounds, if_neg (by omega), h5]
theorem lrow_cell {g c : Nat} {ys : List ByteArray} {W : World} (h : LRow g c ys W) (i : Nat) (hi : i < ys.length) : W.cell? ⟨g, i, none⟩ = some (.string (ys.getD i ByteArray.empty)) := by
  obtain ⟨cs, h1, h2, h3, h4, h5⟩ := h
  rw [blk_cell h1, h4 i hi]
set_option maxHeartbeats 8000000 in
set_option maxRecDepth 100000 in
theorem roots_walk (A : Option Addr) (cp : Nat) (xs : List ByteArray) (s : ByteArray) (left right : List UInt8) (w : World) (hr : Kd.C Kd.string w A xs.length xs) (hcp : xs.length ≤ cp) (hn : xs.length ≤ 1048576) (hsz : ∀ s ∈ xs, s.size ≤ 1048576)
    (hs : s.size ≤ 140737488355000) (hl : left.length = 32) (hrt : right.length = 32) :
    Calls Try.prog 3 #[.slice A xs.length cp, .string s, .agg (brw 32 left), .agg (brw 32 right)] w fun e w' => e = .returned (.bool true) ∧ Below w.heap.size w w' := by
  have i23 : (Try.prog.info? 23).map (·.size) = some 32 := by kernel_rfl
  obtain ⟨R, hR⟩ : ∃ R, R = rootF xs := ⟨_, rfl⟩
  have hRl : R.length = 32 := by rw [hR]; exact rootF_len xs
  have HSZ : Aside0 (∀ s ∈ xs, s.size ≤ 140737488355000) := ⟨fun s h => Nat.le_trans (hsz s h) (by decide)⟩
  have HSY : Aside0 (∀ j, j < xs.length → (xs.getD j ByteArray.empty).size ≤ 1048576) := ⟨fun j hj => by
    rw [List.getD_eq_getElem?_getD, List.getElem?_eq_getElem hj]; exact hsz _ (List.getElem_mem hj)⟩
  clear hsz
  have HRT : ∀ (g c : Nat) (W : World), LRow g c xs W → Calls Try.prog 9 #[.slice (some ⟨g, 0, none⟩) xs.length c] W fun e w' => e = .returned (.agg (brw 32 R)) ∧ Below W.heap.size W w' := fun g c W h => by
    rw [hR]; exact root_agg _ c xs W (lrow_read h (by omega)) (lrow_cap h) (by omega) HSZ.out
  have HDR : ∀ W : World, Kd.C Kd.string W A xs.length xs → Calls Try.prog 10 #[.slice A xs.length cp] W fun e w' => e = .returned (.agg (brw 32 R)) ∧ Below W.heap.size W w' := fun W h => by
    rw [hR]; exact rroot_agg A cp xs W h hcp hn HSZ.out
  obtain ⟨Lt, hLt⟩ : ∃ R, R = leafF s.data.toList := ⟨_, rfl⟩
  have hLtl : Lt.length = 32 := by rw [hLt]; exact leafF_len _
  have HLT : ∀ W : World, Calls Try.prog 12 #[.string s] W fun e w' => e = .returned (.agg (brw 32 Lt)) ∧ Below W.heap.size W w' := fun W => by rw [hLt]; exact leaf_agg s hs W
  have HDL : ∀ W : World, Calls Try.prog 13 #[.string s] W fun e w' => e = .returned (.agg (brw 32 Lt)) ∧ Below W.heap.size W w' := fun W => by rw [hLt]; exact rleaf_agg s hs W
  obtain ⟨Nd, hNd⟩ : ∃ R, R = nodeF left right := ⟨_, rfl⟩
  have hNdl : Nd.length = 32 := by rw [hNd]; exact nodeF_len _ _
  have HNT : ∀ W : World, Calls Try.prog 14 #[.agg (brw 32 left), .agg (brw 32 right)] W fun e w' => e = .returned (.agg (brw 32 Nd)) ∧ Below W.heap.size W w' := fun W => by rw [hNd]; exact node_agg left right hl hrt W
  have HDN : ∀ W : World, Calls Try.prog 15 #[.agg (brw 32 left), .agg (brw 32 right)] W fun e w' => e = .returned (.agg (brw 32 Nd)) ∧ Below W.heap.size W w' := fun W => by rw [hNd]; exact rnode_agg left right hl hrt W
  have heq1 := eq32 R R hRl hRl
  rw [decide_eq_true rfl, B32_brw R hRl] at heq1
  have heq2 := eq32 Lt Lt hLtl hLtl
  rw [decide_eq_true rfl, B32_brw Lt hLtl] at heq2
  have heq3 := eq32 Nd Nd hNdl hNdl
  rw [decide_eq_true rfl, B32_brw Nd hNdl] at heq3
  clear hR hLt hNd
  have hq := below_alloc (below_alloc (Below.refl w.heap.size w) (.cells (brw 32 left) 23)) (.cells (brw 32 right) 23)
  have C6 := Aside0.mk (blk_below (blk_new w (.cells (brw 32 left) 23)) (below_alloc (Below.refl _ _) (.cells (brw 32 right) 23)))
  have C7 := Aside0.mk (blk_new (w.alloc (.cells (brw 32 left) 23)) (.cells (brw 32 right) 23))
  have HR := Aside0.mk (Kd.C_below hr hq)
  have D0 := Aside0.mk hq
  clear hr hq
  go_enter Try.func3, Try.ntmps3
  go_upto_region 1 with (fail)
  change Code.wp _ _ _ _ ((w.alloc (.cells (brw 32 left) 23)).alloc (.cells (brw 32 right) 23))
  obtain ⟨g6, hg6⟩ : ∃ g, g = w.heap.size := ⟨_, rfl⟩
  obtain ⟨g7, hg7⟩ : ∃ g, g = (w.alloc (.cells (brw 32 left) 23)).heap.size := ⟨_, rfl⟩
  rw [← hg6] at C6
  rw [← hg7] at C7
  have P6 : (Value.pointer (some ⟨w.heap.size, 0, none⟩)) = .pointer (some ⟨g6, 0, none⟩) := by rw [hg6]
  have P7 : (Value.pointer (some ⟨w.heap.size + 1, 0, none⟩)) = .pointer (some ⟨g7, 0, none⟩) := by rw [hg7]; show _ = Value.pointer (some ⟨(w.heap.push _).size, 0, none⟩); rw [Array.size_push]
  rw [P6, P7]
  clear P6 P7 hg6 hg7
  generalize (w.alloc (.cells (brw 32 left) 23)).alloc (.cells (brw 32 right) 23) = w1 at C6 C7 D0 HR ⊢
  go_upto_region 4 with (first
    | (go_at_call 8; (with_reducible refine (lent_calls A cp xs _ HR.out hcp (by omega)).mono ?_); rintro e w2 ⟨g, c, rfl, hg, hl, hcm, hb⟩; have HGG := Aside0.mk (Nat.le_trans D0.out.size hg); have n_D0 := Aside0.mk (below_then D0.out D0.out.size hb); have n_C6 := Aside0.mk (blk_below C6.out hb); have n_C7 := Aside0.mk (blk_below C7.out hb); have n_HR := Aside0.mk (Kd.C_below HR.out hb); clear D0 C6 C7 HR; have D0 := n_D0; have C6 := n_C6; have C7 := n_C7; have HR := n_HR; clear n_D0 n_C6 n_C7 n_HR; have HL := Aside0.mk hl; have HCM := Aside0.mk hcm; clear hb hl hg hcm)
    | (go_at_call 9; (with_reducible refine (HRT g c w2 HL.out).mono ?_); rintro e w3 ⟨rfl, hb⟩; have n_D0 := Aside0.mk (below_then D0.out D0.out.size hb); have n_C6 := Aside0.mk (blk_below C6.out hb); have n_C7 := Aside0.mk (blk_below C7.out hb); have n_HR := Aside0.mk (Kd.C_below HR.out hb); have n_HL := Aside0.mk (lrow_below HL.out hb); clear D0 C6 C7 HR HL; have D0 := n_D0; have C6 := n_C6; have C7 := n_C7; have HR := n_HR; have HL := n_HL; clear n_D0 n_C6 n_C7 n_HR n_HL; clear hb)
    | ((with_reducible refine gate_store rfl ?_); refine wpList_put_new rfl (.tmp 10) (.tmp 17) rfl R hRl rfl rfl (fun w4 hc hb => ?_); have n_D0 := Aside0.mk (below_then D0.out D0.out.size hb); have n_C6 := Aside0.mk (blk_below C6.out hb); have n_C7 := Aside0.mk (blk_below C7.out hb); have n_HR := Aside0.mk (Kd.C_below HR.out hb); have n_HL := Aside0.mk (lrow_below HL.out hb); clear D0 C6 C7 HR HL; have D0 := n_D0; have C6 := n_C6; have C7 := n_C7; have HR := n_HR; have HL := n_HL; clear n_D0 n_C6 n_C7 n_HR n_HL; have C10 := Aside0.mk hc; clear hb hc)
    | (go_at_call 9; (with_reducible refine (HRT g c w4 HL.out).mono ?_); rintro e w5 ⟨rfl, hb⟩; have n_D0 := Aside0.mk (below_then D0.out D0.out.size hb); have n_C6 := Aside0.mk (blk_below C6.out hb); have n_C7 := Aside0.mk (blk_below C7.out hb); have n_HR := Aside0.mk (Kd.C_below HR.out hb); have n_HL := Aside0.mk (lrow_below HL.out hb); have n_C10 := Aside0.mk (blk_below C10.out hb); clear D0 C6 C7 HR HL C10; have D0 := n_D0; have C6 := n_C6; have C7 := n_C7; have HR := n_HR; have HL := n_HL; have C10 := n_C10; clear n_D0 n_C6 n_C7 n_HR n_HL n_C10; clear hb)
    | ((with_reducible refine gate_store rfl ?_); refine wpList_put_new rfl (.tmp 11) (.tmp 19) rfl R hRl rfl rfl (fun w6 hc hb => ?_); have n_D0 := Aside0.mk (below_then D0.out D0.out.size hb); have n_C6 := Aside0.mk (blk_below C6.out hb); have n_C7 := Aside0.mk (blk_below C7.out hb); have n_HR := Aside0.mk (Kd.C_below HR.out hb); have n_HL := Aside0.mk (lrow_below HL.out hb); have n_C10 := Aside0.mk (blk_below C10.out hb); clear D0 C6 C7 HR HL C10; have D0 := n_D0; have C6 := n_C6; have C7 := n_C7; have HR := n_HR; have HL := n_HL; have C10 := n_C10; clear n_D0 n_C6 n_C7 n_HR n_HL n_C10; have C11 := Aside0.mk hc; clear hb hc))
  refine start_ (n := 31) (S := fun W => Below w6.heap.size w6 W) (ds := []) #[false, false, false, false, false, false, false, false, false, false, false, false, false, false, false, false, false, false, false, false, false, false, false, false, false, false, false, false, false, false, false] (by kernel_rfl) rfl rfl (below_drew1 (Below.refl _ _)) (fun hHeld => ?_); refine with_tabW mrA.tab4 mrA.bits4 (fun HT_ HW_ => ?_)
  generalize World.drew _ = wR at hHeld ⊢
  refine take_ (i := 0) (N := some 20) (v := ?_) (a' := ?_) #[true, false, false, false, false, false, false, false, false, false, false, false, false, false, false, false, false, false, false, false, false, false, false, false, false, false, false, false, false, false, false] rfl rfl (take_ofW HT_.out HW_.out (by kernel_rfl)) (fun _ _ _ h => h) (Or.inl ⟨by rfl, ?_⟩) hHeld ?_ ?_
  rotate_left
  · rintro w' s0
    refine exec_load_row 23 (.tmp 10) ?_ w3.heap.size ?_ 23 (brw 32 R) (0, 0) _ (blk_below C10.out s0) Try.underlying23 ?_ (by rw [brw_size 32 R (by omega)]; exact i23) <;> rfl
  rotate_left
  · simp only [Act.put, List.setIfInBounds_toArray, List.set_cons_zero, List.set_cons_succ, i64_w, i32_w]
    rfl
  refine pure_ (i := 1) (N := some 21) (v := ?_) (a' := ?_) #[true, true, false, false, false, false, false, false, false, false, false, false, false, false, false, false, false, false, false, false, false, false, false, false, false, false, false, false, false, false, false] rfl rfl (any_of HT_.out (by kernel_rfl)) (fun _ _ _ h => h) (Or.inl ⟨by rfl, ?_⟩) ?_ ?_
  rotate_left
  · intro w'
    go_simp
    with_reducible rfl
  rotate_left
  · simp only [Act.put, List.setIfInBounds_toArray, List.set_cons_zero, List.set_cons_succ, i64_w, i32_w]
    rfl
  refine one_ (i := 2) (N := some 22) #[true, true, true, false, false, false, false, false, false, false, false, false, false, false, false, false, false, false, false, false, false, false, false, false, false, false, false, false, false, false, false] rfl rfl (one_of HT_.out (by kernel_rfl)) (by decide) (fun K hK => ?_)
  refine goes_ Try.func10 (by kernel_rfl) rfl #[.slice A xs.length cp] (by rfl) rfl rfl (by (try simp only [List.map_toArray, List.map_cons, List.map_nil]); first | done | rfl) ?_
  with_reducible refine (HDR _ (Kd.C_below HR.out hHeld)).mono ?_
  rintro e w_2 ⟨rfl, hb⟩
  refine ⟨_, rfl, ?_⟩
  have hb2 := below_then hHeld hHeld.size hb
  refine hK.out _ _ hb2 (fun hHeld => ?_)
  clear hK K
  refine norm_ (a' := ?_) ?_ ?_
  rotate_left
  · show Act.put _ (some 22) _ = _
    simp only [Act.put, List.setIfInBounds_toArray, List.set_cons_zero, List.set_cons_succ, i64_w, i32_w]
    rfl
  clear hb2 hb
  refine pure_ (i := 3) (N := some 23) (v := ?_) (a' := ?_) #[true, true, true, true, false, false, false, false, false, false, false, false, false, false, false, false, false, false, false, false, false, false, false, false, false, false, false, false, false, false, false] rfl rfl (any_of HT_.out (by kernel_rfl)) (fun _ _ _ h => h) (Or.inl ⟨by rfl, ?_⟩) ?_ ?_
  rotate_left
  · intro w'
    go_simp
    with_reducible rfl
  rotate_left
  · simp only [Act.put, List.setIfInBounds_toArray, List.set_cons_zero, List.set_cons_succ, i64_w, i32_w]
    rfl
  refine pure_ (i := 4) (N := some 24) (v := ?_) (a' := ?_) #[true, true, true, true, true, false, false, false, false, false, false, false, false, false, false, false, false, false, false, false, false, false, false, false, false, false, false, false, false, false, false] rfl rfl (any_of HT_.out (by kernel_rfl)) (fun _ _ _ h => h) (Or.inl ⟨by rfl, ?_⟩) ?_ ?_
  rotate_left
  · intro w'
    go_simp
    with_reducible rfl
  rotate_left
  · simp only [Act.put, List.setIfInBounds_toArray, List.set_cons_zero, List.set_cons_succ, i64_w, i32_w]
    rfl
  refine take_ (i := 5) (N := some 25) (v := ?_) (a' := ?_) #[true, true, true, true, true, true, false, false, false, false, false, false, false, false, false, false, false, false, false, false, false, false, false, false, false, false, false, false, false, false, false] rfl rfl (take_ofW HT_.out HW_.out (by kernel_rfl)) (fun _ _ _ h => h) (Or.inl ⟨by rfl, ?_⟩) hHeld ?_ ?_
  rotate_left
  · rintro w' s0
    refine exec_load_row 23 (.tmp 11) ?_ w5.heap.size ?_ 23 (brw 32 R) (0, 0) _ (blk_below C11.out s0) Try.underlying23 ?_ (by rw [brw_size 32 R (by omega)]; exact i23) <;> rfl
  rotate_left
  · simp only [Act.put, List.setIfInBounds_toArray, List.set_cons_zero, List.set_cons_succ, i64_w, i32_w]
    rfl
  refine take_ (i := 6) (N := some 26) (v := ?_) (a' := ?_) #[true, true, true, true, true, true, true, false, false, false, false, false, false, false, false, false, false, false, false, false, false, false, false, false, false, false, false, false, false, false, false] rfl rfl (take_ofW HT_.out HW_.out (by kernel_rfl)) (fun _ _ _ h => h) (Or.inl ⟨by rfl, ?_⟩) hHeld ?_ ?_
  rotate_left
  · rintro w' s0
    refine exec_load_row 23 (.tmp 10) ?_ w3.heap.size ?_ 23 (brw 32 R) (0, 0) _ (blk_below C10.out s0) Try.underlying23 ?_ (by rw [brw_size 32 R (by omega)]; exact i23) <;> rfl
  rotate_left
  · simp only [Act.put, List.setIfInBounds_toArray, List.set_cons_zero, List.set_cons_succ, i64_w, i32_w]
    rfl
  refine pure_ (i := 7) (N := some 27) (v := ?_) (a' := ?_) #[true, true, true, true, true, true, true, true, false, false, false, false, false, false, false, false, false, false, false, false, false, false, false, false, false, false, false, false, false, false, false] rfl rfl (any_of HT_.out (by kernel_rfl)) (fun _ _ _ h => h) (Or.inl ⟨by rfl, ?_⟩) ?_ ?_
  rotate_left
  · intro w'
    go_simp
    with_reducible rfl
  rotate_left
  · simp only [Act.put, List.setIfInBounds_toArray, List.set_cons_zero, List.set_cons_succ, i64_w, i32_w]
    rfl
  refine pure_ (i := 8) (N := some 28) (v := ?_) (a' := ?_) #[true, true, true, true, true, true, true, true, true, false, false, false, false, false, false, false, false, false, false, false, false, false, false, false, false, false, false, false, false, false, false] rfl rfl (any_of HT_.out (by kernel_rfl)) (fun _ _ _ h => h) (Or.inl ⟨by rfl, ?_⟩) ?_ ?_
  rotate_left
  · intro w'
    go_simp
    with_reducible rfl
  rotate_left
  · simp only [Act.put, List.setIfInBounds_toArray, List.set_cons_zero, List.set_cons_succ, i64_w, i32_w]
    rfl
  refine pure_ (i := 9) (N := some 29) (v := ?_) (a' := ?_) #[true, true, true, true, true, true, true, true, true, true, false, false, false, false, false, false, false, false, false, false, false, false, false, false, false, false, false, false, false, false, false] rfl rfl (any_of HT_.out (by kernel_rfl)) (fun _ _ _ h => h) (Or.inl ⟨by rfl, ?_⟩) ?_ ?_
  rotate_left
  · intro w'
    go_simp
    with_reducible rfl
  rotate_left
  · simp only [Act.put, List.setIfInBounds_toArray, List.set_cons_zero, List.set_cons_succ, i64_w, i32_w]
    rfl
  refine pure_ (i := 10) (N := some 30) (v := ?_) (a' := ?_) #[true, true, true, true, true, true, true, true, true, true, true, false, false, false, false, false, false, false, false, false, false, false, false, false, false, false, false, false, false, false, false] rfl rfl (any_of HT_.out (by kernel_rfl)) (fun _ _ _ h => h) (Or.inl ⟨by rfl, ?_⟩) ?_ ?_
  rotate_left
  · intro w'
    go_simp
    with_reducible rfl
  rotate_left
  · simp only [Act.put, List.setIfInBounds_toArray, List.set_cons_zero, List.set_cons_succ, i64_w, i32_w]
    rfl
  refine pure_ (i := 11) (N := some 31) (v := ?_) (a' := ?_) #[true, true, true, true, true, true, true, true, true, true, true, true, false, false, false, false, false, false, false, false, false, false, false, false, false, false, false, false, false, false, false] rfl rfl (any_of HT_.out (by kernel_rfl)) (fun _ _ _ h => h) (Or.inl ⟨by rfl, ?_⟩) ?_ ?_
  rotate_left
  · intro w'
    go_simp
    with_reducible rfl
  rotate_left
  · simp only [Act.put, List.setIfInBounds_toArray, List.set_cons_zero, List.set_cons_succ, i64_w, i32_w]
    rfl
  refine one_ (i := 12) (N := some 32) #[true, true, true, true, true, true, true, true, true, true, true, true, true, false, false, false, false, false, false, false, false, false, false, false, false, false, false, false, false, false, false] rfl rfl (one_of HT_.out (by kernel_rfl)) (by decide) (fun K hK => ?_)
  refine goes_ Try.func11 (by kernel_rfl) rfl #[.slice (some ⟨g, 0, none⟩) xs.length c, .slice A xs.length cp] (by rfl) rfl rfl (by (try simp only [List.map_toArray, List.map_cons, List.map_nil]); first | done | rfl) ?_
  with_reducible refine (kept_calls g c A cp xs _ (lrow_below HL.out hHeld) HCM.out (Kd.C_below HR.out hHeld) (by omega)).mono ?_
  rintro e w_2 ⟨rfl, hb⟩
  refine ⟨_, rfl, ?_⟩
  have hb2 := below_then hHeld hHeld.size hb
  refine hK.out _ _ hb2 (fun hHeld => ?_)
  clear hK K
  refine norm_ (a' := ?_) ?_ ?_
  rotate_left
  · show Act.put _ (some 32) _ = _
    simp only [Act.put, List.setIfInBounds_toArray, List.set_cons_zero, List.set_cons_succ, i64_w, i32_w]
    rfl
  clear hb2 hb
  refine pure_ (i := 13) (N := some 33) (v := ?_) (a' := ?_) #[true, true, true, true, true, true, true, true, true, true, true, true, true, true, false, false, false, false, false, false, false, false, false, false, false, false, false, false, false, false, false] rfl rfl (any_of HT_.out (by kernel_rfl)) (fun _ _ _ h => h) (Or.inl ⟨by rfl, ?_⟩) ?_ ?_
  rotate_left
  · intro w'
    go_simp
    with_reducible rfl
  rotate_left
  · simp only [Act.put, List.setIfInBounds_toArray, List.set_cons_zero, List.set_cons_succ, i64_w, i32_w]
    rfl
  refine pure_ (i := 14) (N := some 34) (v := ?_) (a' := ?_) #[true, true, true, true, true, true, true, true, true, true, true, true, true, true, true, false, false, false, false, false, false, false, false, false, false, false, false, false, false, false, false] rfl rfl (any_of HT_.out (by kernel_rfl)) (fun _ _ _ h => h) (Or.inl ⟨by rfl, ?_⟩) ?_ ?_
  rotate_left
  · intro w'
    go_simp
    with_reducible rfl
  rotate_left
  · simp only [Act.put, List.setIfInBounds_toArray, List.set_cons_zero, List.set_cons_succ, i64_w, i32_w]
    rfl
  refine pure_ (i := 15) (N := some 35) (v := ?_) (a' := ?_) #[true, true, true, true, true, true, true, true, true, true, true, true, true, true, true, true, false, false, false, false, false, false, false, false, false, false, false, false, false, false, false] rfl rfl (any_of HT_.out (by kernel_rfl)) (fun _ _ _ h => h) (Or.inl ⟨by rfl, ?_⟩) ?_ ?_
  rotate_left
  · intro w'
    go_simp
    with_reducible rfl
  rotate_left
  · simp only [Act.put, List.setIfInBounds_toArray, List.set_cons_zero, List.set_cons_succ, i64_w, i32_w]
    rfl
  refine pure_ (i := 16) (N := some 36) (v := ?_) (a' := ?_) #[true, true, true, true, true, true, true, true, true, true, true, true, true, true, true, true, true, false, false, false, false, false, false, false, false, false, false, false, false, false, false] rfl rfl (any_of HT_.out (by kernel_rfl)) (fun _ _ _ h => h) (Or.inl ⟨by rfl, ?_⟩) ?_ ?_
  rotate_left
  · intro w'
    go_simp
    with_reducible rfl
  rotate_left
  · simp only [Act.put, List.setIfInBounds_toArray, List.set_cons_zero, List.set_cons_succ, i64_w, i32_w]
    rfl
  refine pure_ (i := 18) (N := some 38) (v := ?_) (a' := ?_) #[true, true, true, true, true, true, true, true, true, true, true, true, true, true, true, true, true, false, true, false, false, false, false, false, false, false, false, false, false, false, false] rfl rfl (any_of HT_.out (by kernel_rfl)) (fun _ _ _ h => h) (Or.inl ⟨by rfl, ?_⟩) ?_ ?_
  rotate_left
  · intro w'
    go_simp
    with_reducible rfl
  rotate_left
  · simp only [Act.put, List.setIfInBounds_toArray, List.set_cons_zero, List.set_cons_succ, i64_w, i32_w]
    rfl
  refine one_ (i := 17) (N := some 37) #[true, true, true, true, true, true, true, true, true, true, true, true, true, true, true, true, true, true, true, false, false, false, false, false, false, false, false, false, false, false, false] rfl rfl (one_of HT_.out (by kernel_rfl)) (by decide) (fun K hK => ?_)
  refine goes_ Try.func12 (by kernel_rfl) rfl #[.string s] (by rfl) rfl rfl (by (try simp only [List.map_toArray, List.map_cons, List.map_nil]); first | done | rfl) ?_
  with_reducible refine (HLT _).mono ?_
  rintro e w_2 ⟨rfl, hb⟩
  refine ⟨_, rfl, ?_⟩
  have hb2 := below_then hHeld hHeld.size hb
  refine hK.out _ _ hb2 (fun hHeld => ?_)
  clear hK K
  refine norm_ (a' := ?_) ?_ ?_
  rotate_left
  · show Act.put _ (some 37) _ = _
    simp only [Act.put, List.setIfInBounds_toArray, List.set_cons_zero, List.set_cons_succ, i64_w, i32_w]
    rfl
  clear hb2 hb
  refine one_ (i := 19) (N := some 39) #[true, true, true, true, true, true, true, true, true, true, true, true, true, true, true, true, true, true, true, true, false, false, false, false, false, false, false, false, false, false, false] rfl rfl (one_of HT_.out (by kernel_rfl)) (by decide) (fun K hK => ?_)
  refine goes_ Try.func13 (by kernel_rfl) rfl #[.string s] (by rfl) rfl rfl (by (try simp only [List.map_toArray, List.map_cons, List.map_nil]); first | done | rfl) ?_
  with_reducible refine (HDL _).mono ?_
  rintro e w_2 ⟨rfl, hb⟩
  refine ⟨_, rfl, ?_⟩
  have hb2 := below_then hHeld hHeld.size hb
  refine hK.out _ _ hb2 (fun hHeld => ?_)
  clear hK K
  refine norm_ (a' := ?_) ?_ ?_
  rotate_left
  · show Act.put _ (some 39) _ = _
    simp only [Act.put, List.setIfInBounds_toArray, List.set_cons_zero, List.set_cons_succ, i64_w, i32_w]
    rfl
  clear hb2 hb
  refine pure_ (i := 20) (N := some 40) (v := ?_) (a' := ?_) #[true, true, true, true, true, true, true, true, true, true, true, true, true, true, true, true, true, true, true, true, true, false, false, false, false, false, false, false, false, false, false] rfl rfl (any_of HT_.out (by kernel_rfl)) (fun _ _ _ h => h) (Or.inl ⟨by rfl, ?_⟩) ?_ ?_
  rotate_left
  · intro w'
    go_simp
    with_reducible rfl
  rotate_left
  · simp only [Act.put, List.setIfInBounds_toArray, List.set_cons_zero, List.set_cons_succ, i64_w, i32_w]
    rfl
  refine pure_ (i := 21) (N := some 41) (v := ?_) (a' := ?_) #[true, true, true, true, true, true, true, true, true, true, true, true, true, true, true, true, true, true, true, true, true, true, false, false, false, false, false, false, false, false, false] rfl rfl (any_of HT_.out (by kernel_rfl)) (fun _ _ _ h => h) (Or.inl ⟨by rfl, ?_⟩) ?_ ?_
  rotate_left
  · intro w'
    go_simp
    with_reducible rfl
  rotate_left
  · simp only [Act.put, List.setIfInBounds_toArray, List.set_cons_zero, List.set_cons_succ, i64_w, i32_w]
    rfl
  refine pure_ (i := 22) (N := some 42) (v := ?_) (a' := ?_) #[true, true, true, true, true, true, true, true, true, true, true, true, true, true, true, true, true, true, true, true, true, true, true, false, false, false, false, false, false, false, false] rfl rfl (any_of HT_.out (by kernel_rfl)) (fun _ _ _ h => h) (Or.inl ⟨by rfl, ?_⟩) ?_ ?_
  rotate_left
  · intro w'
    go_simp
    with_reducible rfl
  rotate_left
  · simp only [Act.put, List.setIfInBounds_toArray, List.set_cons_zero, List.set_cons_succ, i64_w, i32_w]
    rfl
  refine take_ (i := 23) (N := some 43) (v := ?_) (a' := ?_) #[true, true, true, true, true, true, true, true, true, true, true, true, true, true, true, true, true, true, true, true, true, true, true, true, false, false, false, false, false, false, false] rfl rfl (take_ofW HT_.out HW_.out (by kernel_rfl)) (fun _ _ _ h => h) (Or.inl ⟨by rfl, ?_⟩) hHeld ?_ ?_
  rotate_left
  · rintro w' s0
    refine exec_load_row 23 (.tmp 6) ?_ g6 ?_ 23 (brw 32 left) (0, 0) _ (blk_below C6.out s0) Try.underlying23 ?_ (by rw [brw_size 32 left (by omega)]; exact i23) <;> rfl
  rotate_left
  · simp only [Act.put, List.setIfInBounds_toArray, List.set_cons_zero, List.set_cons_succ, i64_w, i32_w]
    rfl
  refine take_ (i := 24) (N := some 44) (v := ?_) (a' := ?_) #[true, true, true, true, true, true, true, true, true, true, true, true, true, true, true, true, true, true, true, true, true, true, true, true, true, false, false, false, false, false, false] rfl rfl (take_ofW HT_.out HW_.out (by kernel_rfl)) (fun _ _ _ h => h) (Or.inl ⟨by rfl, ?_⟩) hHeld ?_ ?_
  rotate_left
  · rintro w' s0
    refine exec_load_row 23 (.tmp 7) ?_ g7 ?_ 23 (brw 32 right) (0, 0) _ (blk_below C7.out s0) Try.underlying23 ?_ (by rw [brw_size 32 right (by omega)]; exact i23) <;> rfl
  rotate_left
  · simp only [Act.put, List.setIfInBounds_toArray, List.set_cons_zero, List.set_cons_succ, i64_w, i32_w]
    rfl
  refine take_ (i := 26) (N := some 46) (v := ?_) (a' := ?_) #[true, true, true, true, true, true, true, true, true, true, true, true, true, true, true, true, true, true, true, true, true, true, true, true, true, false, true, false, false, false, false] rfl rfl (take_ofW HT_.out HW_.out (by kernel_rfl)) (fun _ _ _ h => h) (Or.inl ⟨by rfl, ?_⟩) hHeld ?_ ?_
  rotate_left
  · rintro w' s0
    refine exec_load_row 23 (.tmp 6) ?_ g6 ?_ 23 (brw 32 left) (0, 0) _ (blk_below C6.out s0) Try.underlying23 ?_ (by rw [brw_size 32 left (by omega)]; exact i23) <;> rfl
  rotate_left
  · simp only [Act.put, List.setIfInBounds_toArray, List.set_cons_zero, List.set_cons_succ, i64_w, i32_w]
    rfl
  refine take_ (i := 27) (N := some 47) (v := ?_) (a' := ?_) #[true, true, true, true, true, true, true, true, true, true, true, true, true, true, true, true, true, true, true, true, true, true, true, true, true, false, true, true, false, false, false] rfl rfl (take_ofW HT_.out HW_.out (by kernel_rfl)) (fun _ _ _ h => h) (Or.inl ⟨by rfl, ?_⟩) hHeld ?_ ?_
  rotate_left
  · rintro w' s0
    refine exec_load_row 23 (.tmp 7) ?_ g7 ?_ 23 (brw 32 right) (0, 0) _ (blk_below C7.out s0) Try.underlying23 ?_ (by rw [brw_size 32 right (by omega)]; exact i23) <;> rfl
  rotate_left
  · simp only [Act.put, List.setIfInBounds_toArray, List.set_cons_zero, List.set_cons_succ, i64_w, i32_w]
    rfl
  refine one_ (i := 25) (N := some 45) #[true, true, true, true, true, true, true, true, true, true, true, true, true, true, true, true, true, true, true, true, true, true, true, true, true, true, true, true, false, false, false] rfl rfl (one_of HT_.out (by kernel_rfl)) (by decide) (fun K hK => ?_)
  refine goes_ Try.func14 (by kernel_rfl) rfl #[.agg (brw 32 left), .agg (brw 32 right)] (by rfl) rfl rfl (by (try simp only [List.map_toArray, List.map_cons, List.map_nil]); first | done | rfl) ?_
  with_reducible refine (HNT _).mono ?_
  rintro e w_2 ⟨rfl, hb⟩
  refine ⟨_, rfl, ?_⟩
  have hb2 := below_then hHeld hHeld.size hb
  refine hK.out _ _ hb2 (fun hHeld => ?_)
  clear hK K
  refine norm_ (a' := ?_) ?_ ?_
  rotate_left
  · show Act.put _ (some 45) _ = _
    simp only [Act.put, List.setIfInBounds_toArray, List.set_cons_zero, List.set_cons_succ, i64_w, i32_w]
    rfl
  clear hb2 hb
  refine one_ (i := 28) (N := some 48) #[true, true, true, true, true, true, true, true, true, true, true, true, true, true, true, true, true, true, true, true, true, true, true, true, true, true, true, true, true, false, false] rfl rfl (one_of HT_.out (by kernel_rfl)) (by decide) (fun K hK => ?_)
  refine goes_ Try.func15 (by kernel_rfl) rfl #[.agg (brw 32 left), .agg (brw 32 right)] (by rfl) rfl rfl (by (try simp only [List.map_toArray, List.map_cons, List.map_nil]); first | done | rfl) ?_
  with_reducible refine (HDN _).mono ?_
  rintro e w_2 ⟨rfl, hb⟩
  refine ⟨_, rfl, ?_⟩
  have hb2 := below_then hHeld hHeld.size hb
  refine hK.out _ _ hb2 (fun hHeld => ?_)
  clear hK K
  refine norm_ (a' := ?_) ?_ ?_
  rotate_left
  · show Act.put _ (some 48) _ = _
    simp only [Act.put, List.setIfInBounds_toArray, List.set_cons_zero, List.set_cons_succ, i64_w, i32_w]
    rfl
  clear hb2 hb
  refine pure_ (i := 29) (N := some 49) (v := ?_) (a' := ?_) #[true, true, true, true, true, true, true, true, true, true, true, true, true, true, true, true, true, true, true, true, true, true, true, true, true, true, true, true, true, true, false] rfl rfl (any_of HT_.out (by kernel_rfl)) (fun _ _ _ h => h) (Or.inl ⟨by rfl, ?_⟩) ?_ ?_
  rotate_left
  · intro w'
    go_simp
    with_reducible rfl
  rotate_left
  · simp only [Act.put, List.setIfInBounds_toArray, List.set_cons_zero, List.set_cons_succ, i64_w, i32_w]
    rfl
  refine pure_ (i := 30) (N := some 50) (v := ?_) (a' := ?_) #[true, true, true, true, true, true, true, true, true, true, true, true, true, true, true, true, true, true, true, true, true, true, true, true, true, true, true, true, true, true, true] rfl rfl (any_of HT_.out (by kernel_rfl)) (fun _ _ _ h => h) (Or.inl ⟨by rfl, ?_⟩) ?_ ?_
  rotate_left
  · intro w'
    go_simp
    with_reducible rfl
  rotate_left
  · simp only [Act.put, List.setIfInBounds_toArray, List.set_cons_zero, List.set_cons_succ, i64_w, i32_w]
    rfl
  refine done_ (done_of HT_.out (by kernel_rfl)) ?_
  have n_D0 := Aside0.mk (below_then D0.out D0.out.size hHeld)
  have n_HL := Aside0.mk (lrow_below HL.out hHeld)
  clear D0 HL
  have D0 := n_D0
  have HL := n_HL
  clear n_D0 n_HL
  clear C6 C7 C10 C11 HR
  go_wp2
  go_loopw [12] (fun v12 W => ∃ (i : Nat) (ys : List ByteArray), i ≤ xs.length ∧ v12 = .int .i64 i ∧ Aside0 (ys.length = xs.length) ∧ Aside0 (∀ j, j < ys.length → (ys.getD j ByteArray.empty).size ≤ 1048577) ∧ Aside0 (∀ j, i ≤ j → j < ys.length → (ys.getD j ByteArray.empty).size ≤ 1048576) ∧ Aside0 (LRow g c ys W) ∧ Aside0 (Below w.heap.size w W)) (fun v12 _ => xs.length - (intOf v12).toNat)
  case atStart => exact ⟨0, xs, Nat.zero_le _, rfl, ⟨rfl⟩, ⟨fun j hj => Nat.le_trans (HSY.out j hj) (by decide)⟩, ⟨fun j _ hj => HSY.out j hj⟩, HL, D0⟩
  case round =>
    clear HL D0
    obtain ⟨i, ys, hi, rfl, HYL, HY1, HY2, HL, D0⟩ := hrel
    by_cases hlt : i < xs.length
    · have q1 : ((i : Int) < (xs.length : Int)) = True := eq_true (by omega)
      have q2 : (i < xs.length) = True := eq_true hlt
      have q3 : (xs.length ≤ i) = False := eq_false (by omega)
      have hyi : i < ys.length := by rw [HYL.out]; exact hlt
      have hz := HY2.out i (Nat.le_refl _) hyi
      have hcl := lrow_cell HL.out i hyi
      obtain ⟨y, hy⟩ : ∃ y, y = ys.getD i ByteArray.empty := ⟨_, rfl⟩
      rw [← hy] at hz hcl
      have t1 : (y.size + 1 ≤ 9223372036854775807) = True := eq_true (by omega)
      have t2 : (9223372036854775807 < y.size + 1) = False := eq_false (by omega)
      have hfz : wr.frozen? ⟨g, i, none⟩ = false := by obtain ⟨cs, h1, _⟩ := HL.out; exact blk_frozen h1 i
      clear hy
      go_wp2
      have hz2 : (y ++ (⟨#[120]⟩ : ByteArray)).size = y.size + 1 := by rw [ByteArray.size_append]; rfl
      refine ⟨⟨i + 1, ys.set i (y ++ ⟨#[120]⟩), by omega, by go_num, ⟨by rw [List.length_set]; exact HYL.out⟩, ⟨fun j hj => ?_⟩, ⟨fun j h1 hj => ?_⟩, ⟨lrow_set HL.out i _ hyi⟩, ⟨D0.out.setCell (by exact HGG.out) _⟩⟩, (by simp [intOf]; omega)⟩
      · rw [List.length_set] at hj
        rw [List.getD_eq_getElem?_getD, List.getElem?_set]
        by_cases e : i = j
        · rw [if_pos e, if_pos hyi]
          show (y ++ (⟨#[120]⟩ : ByteArray)).size ≤ _
          omega
        · rw [if_neg e, ← List.getD_eq_getElem?_getD]
          exact HY1.out j hj
      · rw [List.length_set] at hj
        rw [List.getD_eq_getElem?_getD, List.getElem?_set, if_neg (by omega), ← List.getD_eq_getElem?_getD]
        exact HY2.out j (by omega) hj
    · have q1 : ((i : Int) < (xs.length : Int)) = False := eq_false (by omega)
      obtain ⟨R2, hR2⟩ : ∃ R, R = rootF ys := ⟨_, rfl⟩
      have hR2l : R2.length = 32 := by rw [hR2]; exact rootF_len ys
      have HSZ2 : Aside0 (∀ s ∈ ys, s.size ≤ 140737488355000) := ⟨fun s h => by
        obtain ⟨j, hj, e⟩ := List.getElem_of_mem h
        have := HY1.out j hj
        rw [List.getD_eq_getElem?_getD, List.getElem?_eq_getElem hj] at this
        rw [← e]
        exact Nat.le_trans this (by decide)⟩
      have HRT2 : ∀ (W : World), LRow g c ys W → Calls Try.prog 9 #[.slice (some ⟨g, 0, none⟩) xs.length c] W fun e w' => e = .returned (.agg (brw 32 R2)) ∧ Below W.heap.size W w' := fun W h => by
        have := root_agg _ c ys W (lrow_read h (by rw [HYL.out]; omega)) (lrow_cap h) (by rw [HYL.out]; omega) HSZ2.out
        rw [hR2, ← HYL.out]; exact this
      have HDR2 : ∀ (W : World), LRow g c ys W → Calls Try.prog 10 #[.slice (some ⟨g, 0, none⟩) xs.length c] W fun e w' => e = .returned (.agg (brw 32 R2)) ∧ Below W.heap.size W w' := fun W h => by
        have := rroot_agg _ c ys W (lrow_read h (by rw [HYL.out]; omega)) (lrow_cap h) (by rw [HYL.out]; omega) HSZ2.out
        rw [hR2, ← HYL.out]; exact this
      have heq4 := eq32 R2 R2 hR2l hR2l
      rw [decide_eq_true rfl, B32_brw R2 hR2l] at heq4
      clear hR2
      go_upto_region 11 with (first
        | (go_at_call 9; (with_reducible refine (HRT2 _ HL.out).mono ?_); rintro e w13 ⟨rfl, hb⟩; have n_D0 := Aside0.mk (below_then D0.out D0.out.size hb); have n_HL := Aside0.mk (lrow_below HL.out hb); clear D0 HL hb; have D0 := n_D0; have HL := n_HL; clear n_D0 n_HL)
        | ((with_reducible refine gate_store rfl ?_); refine wpList_put_new rfl (.tmp 13) (.tmp 66) rfl R2 hR2l rfl rfl (fun w14 hc hb => ?_); have n_D0 := Aside0.mk (below_then D0.out D0.out.size hb); have n_HL := Aside0.mk (lrow_below HL.out hb); have C13 := Aside0.mk hc; clear D0 HL hb hc; have D0 := n_D0; have HL := n_HL; clear n_D0 n_HL))
      refine start_ (n := 8) (S := fun W => Below w14.heap.size w14 W) (ds := []) #[false, false, false, false, false, false, false, false] (by kernel_rfl) rfl rfl (below_drew1 (Below.refl _ _)) (fun hHeld => ?_); refine with_tabW mrB.tab11 mrB.bits11 (fun HT_ HW_ => ?_)
      generalize World.drew _ = wR at hHeld ⊢
      refine take_ (i := 0) (N := some 67) (v := ?_) (a' := ?_) #[true, false, false, false, false, false, false, false] rfl rfl (take_ofW HT_.out HW_.out (by kernel_rfl)) (fun _ _ _ h => h) (Or.inl ⟨by rfl, ?_⟩) hHeld ?_ ?_
      rotate_left
      · rintro w' s0
        refine exec_load_row 23 (.tmp 13) ?_ w13.heap.size ?_ 23 (brw 32 R2) (0, 0) _ (blk_below C13.out s0) Try.underlying23 ?_ (by rw [brw_size 32 R2 (by omega)]; exact i23) <;> rfl
      rotate_left
      · simp only [Act.put, List.setIfInBounds_toArray, List.set_cons_zero, List.set_cons_succ, i64_w, i32_w]
        rfl
      refine pure_ (i := 1) (N := some 68) (v := ?_) (a' := ?_) #[true, true, false, false, false, false, false, false] rfl rfl (any_of HT_.out (by kernel_rfl)) (fun _ _ _ h => h) (Or.inl ⟨by rfl, ?_⟩) ?_ ?_
      rotate_left
      · intro w'
        go_simp
        with_reducible rfl
      rotate_left
      · simp only [Act.put, List.setIfInBounds_toArray, List.set_cons_zero, List.set_cons_succ, i64_w, i32_w]
        rfl
      refine one_ (i := 2) (N := some 69) #[true, true, true, false, false, false, false, false] rfl rfl (one_of HT_.out (by kernel_rfl)) (by decide) (fun K hK => ?_)
      refine goes_ Try.func10 (by kernel_rfl) rfl #[.slice (some ⟨g, 0, none⟩) xs.length c] (by rfl) rfl rfl (by (try simp only [List.map_toArray, List.map_cons, List.map_nil]); first | done | rfl) ?_
      with_reducible refine (HDR2 _ (lrow_below HL.out hHeld)).mono ?_
      rintro e w_2 ⟨rfl, hb⟩
      refine ⟨_, rfl, ?_⟩
      have hb2 := below_then hHeld hHeld.size hb
      refine hK.out _ _ hb2 (fun hHeld => ?_)
      clear hK K
      refine norm_ (a' := ?_) ?_ ?_
      rotate_left
      · show Act.put _ (some 69) _ = _
        simp only [Act.put, List.setIfInBounds_toArray, List.set_cons_zero, List.set_cons_succ, i64_w, i32_w]
        rfl
      clear hb2 hb
      refine pure_ (i := 3) (N := some 70) (v := ?_) (a' := ?_) #[true, true, true, true, false, false, false, false] rfl rfl (any_of HT_.out (by kernel_rfl)) (fun _ _ _ h => h) (Or.inl ⟨by rfl, ?_⟩) ?_ ?_
      rotate_left
      · intro w'
        go_simp
        with_reducible rfl
      rotate_left
      · simp only [Act.put, List.setIfInBounds_toArray, List.set_cons_zero, List.set_cons_succ, i64_w, i32_w]
        rfl
      refine pure_ (i := 4) (N := some 71) (v := ?_) (a' := ?_) #[true, true, true, true, true, false, false, false] rfl rfl (any_of HT_.out (by kernel_rfl)) (fun _ _ _ h => h) (Or.inl ⟨by rfl, ?_⟩) ?_ ?_
      rotate_left
      · intro w'
        go_simp
        with_reducible rfl
      rotate_left
      · simp only [Act.put, List.setIfInBounds_toArray, List.set_cons_zero, List.set_cons_succ, i64_w, i32_w]
        rfl
      refine one_ (i := 5) (N := some 72) #[true, true, true, true, true, true, false, false] rfl rfl (one_of HT_.out (by kernel_rfl)) (by decide) (fun K hK => ?_)
      refine goes_ Try.func16 (by kernel_rfl) rfl #[] (by rfl) rfl rfl (by (try simp only [List.map_toArray, List.map_cons, List.map_nil]); first | done | rfl) ?_
      with_reducible refine (first_calls _).mono ?_
      rintro e w_2 ⟨rfl, hb⟩
      refine ⟨_, rfl, ?_⟩
      have hb2 := below_then hHeld hHeld.size hb
      refine hK.out _ _ hb2 (fun hHeld => ?_)
      clear hK K
      refine norm_ (a' := ?_) ?_ ?_
      rotate_left
      · show Act.put _ (some 72) _ = _
        simp only [Act.put, List.setIfInBounds_toArray, List.set_cons_zero, List.set_cons_succ, i64_w, i32_w]
        rfl
      clear hb2 hb
      refine pure_ (i := 6) (N := some 73) (v := ?_) (a' := ?_) #[true, true, true, true, true, true, true, false] rfl rfl (any_of HT_.out (by kernel_rfl)) (fun _ _ _ h => h) (Or.inl ⟨by rfl, ?_⟩) ?_ ?_
      rotate_left
      · intro w'
        go_simp
        with_reducible rfl
      rotate_left
      · simp only [Act.put, List.setIfInBounds_toArray, List.set_cons_zero, List.set_cons_succ, i64_w, i32_w]
        rfl
      refine pure_ (i := 7) (N := some 8) (v := ?_) (a' := ?_) #[true, true, true, true, true, true, true, true] rfl rfl (any_of HT_.out (by kernel_rfl)) (fun _ _ _ h => h) (Or.inl ⟨by rfl, ?_⟩) ?_ ?_
      rotate_left
      · intro w'
        go_simp
        with_reducible rfl
      rotate_left
      · simp only [Act.put, List.setIfInBounds_toArray, List.set_cons_zero, List.set_cons_succ, i64_w, i32_w]
        rfl
      refine done_ (done_of HT_.out (by kernel_rfl)) ?_
      go_wp2
      go_ret
      exact ⟨rfl, below_then D0.out D0.out.size hHeld⟩
end Go.Proofs.Ythpnppfpmhlkaaa.Sha
