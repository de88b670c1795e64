/- Chapter 3: the document's Holds. -/
import Derived.Test.YthpnppfpmhlkaaaMkJ
namespace Go.Proofs.Ythpnppfpmhlkaaa.Sha
open Go.RowKit Go.Proofs.Ythpnppfpmhlkaaa.X Go.Proofs.YthpnppfpmhlkaaaW.PrintWords Go.Proofs.YthpnppfpmhlkaaaW.PrintLast Go.Proofs.YthpnppfpmhlkaaaW.PrintMore
set_option linter.unusedVariables false
set_option linter.unusedSimpArgs false

def rhA.T11 : Bool × List (List Nat × List Nat) := (true, [([], []), ([], []), ([0, 1], [0, 1]), ([2], [2]), ([], []), ([3, 4], [3, 4]), ([5, 5, 0, 1, 2, 3, 4, 5], [5])])
def rhA.B11 : List Nat := [0, 0, 3, 7, 0, 31, 63]
theorem rhA.tab11 : rtab .any (opsOf Try.f20 11) = rhA.T11 := by kernel_rfl
theorem rhA.bits11 : waitsOk rhA.T11.2 rhA.B11 = true := by kernel_rfl
def rhB.T12 : Bool × List (List Nat × List Nat) := (true, [([], []), ([], []), ([], []), ([1, 2], [1, 2]), ([3], [3]), ([0, 4], [0, 4]), ([5, 5, 0, 1, 2, 3, 4, 5], [5])])
def rhB.B12 : List Nat := [0, 0, 0, 6, 14, 31, 63]
theorem rhB.tab12 : rtab .any (opsOf Try.f20 12) = rhB.T12 := by kernel_rfl
theorem rhB.bits12 : waitsOk rhB.T12.2 rhB.B12 = true := by kernel_rfl
set_option maxHeartbeats 8000000 in
set_option maxRecDepth 100000 in
theorem rholds_calls (root : List UInt8) (hroot : root.length = 32) (n i : Int) (hn : n ≤ 9223372036854775807) (s : ByteArray) (hs : s.size ≤ 140737488355000) (A : Option Addr) (c : Nat) (ps : List (List UInt8)) (w : World) (hc : ps.length ≤ c) (hpl : ps.length ≤ 4611686018427387904) (hp : HRead A ps w) :
    Calls Try.prog 20 #[.agg (brw 32 root), .int .i64 n, .int .i64 i, .string s, .slice A ps.length c] w fun e w' => e = .returned (.bool (holdsF root n i s ps)) ∧ Below w.heap.size w w' := by
  have i23 : (Try.prog.info? 23).map (·.size) = some 32 := by kernel_rfl
  have hz0 : (brw 32 []).size = 32 := rfl
  have hzr : (brw 32 root).size = 32 := brw_size 32 root (by omega)
  have HPS := Aside0.mk hp
  clear hp
  go_enter Try.func20, Try.ntmps20
  go_upto_region 1 with (fail)
  change Code.wp _ _ _ _ (w.alloc (.cells (brw 32 root) 23))
  have C5 : Aside0 ((w.alloc (.cells (brw 32 root) 23)).heap[w.heap.size]? = some (.cells (brw 32 root) 23 (0, 0))) := ⟨blk_new _ _⟩
  have D0 := Aside0.mk (below_alloc (Below.refl w.heap.size w) (.cells (brw 32 root) 23))
  generalize w.alloc (.cells (brw 32 root) 23) = w1 at C5 D0 ⊢
  obtain ⟨g5, hg5⟩ : ∃ g, g = w.heap.size := ⟨_, rfl⟩
  have P5 : (Value.pointer (some ⟨w.heap.size, 0, none⟩)) = .pointer (some ⟨g5, 0, none⟩) := by rw [hg5]
  rw [P5]
  rw [← hg5] at C5
  have G5 : Aside0 (w.heap.size ≤ g5) := ⟨by omega⟩
  clear P5 hg5
  by_cases h0 : i < 0
  · have q1 : (i < 0) = True := eq_true h0
    have E : Aside0 (holdsF root n i s ps = false) := ⟨by unfold holdsF; rw [if_neg (by omega)]⟩
    go_wp2
    go_ret
    exact ⟨by rw [E.out]; rfl, D0.out⟩
  by_cases h1 : n ≤ i
  · have q1 : (i < 0) = False := eq_false h0
    have q2 : (n ≤ i) = True := eq_true h1
    have E : Aside0 (holdsF root n i s ps = false) := ⟨by unfold holdsF; rw [if_neg (by omega)]⟩
    go_wp2
    go_ret
    exact ⟨by rw [E.out]; rfl, D0.out⟩
  obtain ⟨m0, rfl⟩ : ∃ j : Nat, n = (j : Int) := ⟨n.toNat, by omega⟩
  obtain ⟨j0, rfl⟩ : ∃ j : Nat, i = (j : Int) := ⟨i.toNat, by omega⟩
  have q1 : (((j0 : Nat) : Int) < 0) = False := eq_false h0
  have q2 : ((m0 : Int) ≤ (j0 : Int)) = False := eq_false h1
  have q3 : (m0 ≤ j0) = False := eq_false (by omega)
  have hj0 : j0 < m0 := by omega
  have hm0 : m0 ≤ 9223372036854775807 := by omega
  obtain ⟨L, hL⟩ : ∃ L, L = leafF s.data.toList := ⟨_, rfl⟩
  have hL32 : L.length = 32 := by rw [hL]; exact leafF_len _
  have HC : ∀ W : World, Calls Try.prog 13 #[.string s] W fun e w' => e = .returned (.agg (brw 32 L)) ∧ Below W.heap.size W w' := fun W => by
    have := rleaf_calls s.data.toList W (by rw [Array.length_toList]; exact hs)
    rw [tx_toList, ← hL, B32_brw L hL32] at this
    exact this
  have E : Aside0 (holdsF root (m0 : Int) (j0 : Int) s ps = told root (hl m0 j0 L ps)) := ⟨by unfold holdsF; rw [if_pos (by omega), hL]; rfl⟩
  have hzL : (brw 32 L).size = 32 := brw_size 32 L (by omega)
  clear hL h0 h1 hn
  go_wp2_with (first
    | (go_at_call 13; (with_reducible refine (HC _).mono ?_); rintro e w4 ⟨rfl, hb⟩; have n_C5 := Aside0.mk (blk_below C5.out hb); have n_D0 := Aside0.mk (below_then D0.out D0.out.size hb); clear C5 D0 hb; have C5 := n_C5; have D0 := n_D0; clear n_C5 n_D0)
    | ((with_reducible refine gate_store rfl ?_); refine wpList_store_row rfl 23 (.tmp 11) (.tmp 22) rfl w4.heap.size (brw 32 L) rfl rfl 23 (brw 32 []) (blk_new _ _) (by rw [hzL]; exact i23) (by rw [hzL, hz0]) (brw_one _ _) ?_))
  try dsimp only [Act.put]
  change Code.wp _ _ _ _ ((w4.alloc (.cells (brw 32 []) 23)).setRow w4.heap.size (brw 32 L))
  have hq := below_setRow (below_alloc (Below.refl w4.heap.size w4) (.cells (brw 32 []) 23)) (Nat.le_refl _) (brw 32 L)
  have C11 := Aside0.mk (setRow_heap _ w4.heap.size _ (brw 32 L) _ _ (blk_new w4 (.cells (brw 32 []) 23)))
  have n_C5 := Aside0.mk (blk_below C5.out hq)
  have n_D0 := Aside0.mk (below_setRow (below_alloc D0.out (.cells (brw 32 []) 23)) D0.out.size (brw 32 L))
  have NE : Aside0 (g5 ≠ w4.heap.size) := ⟨by have := blk_lt C5.out; omega⟩
  have G11 : Aside0 (w.heap.size ≤ w4.heap.size) := ⟨D0.out.size⟩
  clear C5 D0 hq
  have C5 := n_C5
  have D0 := n_D0
  clear n_C5 n_D0
  obtain ⟨g11, hg11⟩ : ∃ g, g = w4.heap.size := ⟨_, rfl⟩
  have P11 : (Value.pointer (some ⟨w4.heap.size, 0, none⟩)) = .pointer (some ⟨g11, 0, none⟩) := by rw [hg11]
  rw [P11]
  generalize (w4.alloc (.cells (brw 32 []) 23)).setRow w4.heap.size (brw 32 L) = w5 at C5 C11 D0 ⊢
  rw [← hg11] at C11 NE G11
  clear P11 hg11
  go_loopw [1, 2, 12] (fun v1 v2 v12 W => ∃ (n i u : Nat) (h : List UInt8), v1 = .int .i64 n ∧ v2 = .int .i64 i ∧ v12 = .int .i64 u ∧ i < n ∧ n ≤ 9223372036854775807 ∧ h.length = 32 ∧ u ≤ ps.length ∧ Aside0 (W.heap[g5]? = some (.cells (brw 32 root) 23 (0, 0))) ∧ Aside0 (W.heap[g11]? = some (.cells (brw 32 h) 23 (0, 0))) ∧ Aside0 (hl n i h (ps.drop u) = hl m0 j0 L ps) ∧ Aside0 (Below w.heap.size w W)) (fun v1 _ _ _ => (intOf v1).toNat)
  case atStart => exact ⟨m0, j0, 0, L, rfl, rfl, rfl, hj0, hm0, hL32, Nat.zero_le _, C5, C11, ⟨rfl⟩, D0⟩
  case round =>
    clear C5 C11 D0 q1 q2 q3
    obtain ⟨n, i, u, h, rfl, rfl, rfl, hi, hn, hh, hu, C5, C11, HE, D0⟩ := hrel
    have hzh : (brw 32 h).size = 32 := brw_size 32 h (by omega)
    by_cases hlt : 1 < n
    · have q4 : ((1 : Int) < (n : Int)) = True := eq_true (by omega)
      have q5 : (1 < n) = True := eq_true hlt
      by_cases hev : i % 2 = 0
      · have q6 : ((i : Int) % 2 = 0) = True := eq_true (by omega)
        have q6b : ((i : Int) % 2 == 0) = true := beq_iff_eq.mpr (by omega)
        have q7 : ((i : Int) % 2 = 1) = False := eq_false (by omega)
        have q7b : ((i : Int) % 2 == 1) = false := beq_eq_false_iff_ne.mpr (by omega)
        by_cases hla : i = n - 1
        · have q8 : ((i : Int) = (n : Int) - 1) = True := eq_true (by omega)
          have q8b : ((i : Int) == (n : Int) - 1) = true := beq_iff_eq.mpr (by omega)
          have hsb : ¬ sib i < n := by unfold sib; rw [if_pos hev]; omega
          have HE2 := Aside0.mk (hl_skip n i h (ps.drop u) hlt hsb)
          clear hsb hla
          go_wp2
          go_roundw
          case rel => exact ⟨n / 2 + n % 2, i / 2, u, h, by go_num, by go_num, rfl, by omega, by omega, hh, hu, C5, C11, ⟨by rw [← HE2.out]; exact HE.out⟩, D0⟩
          case measure => simp [intOf]; omega
        have q8 : ((i : Int) = (n : Int) - 1) = False := eq_false (by omega)
        have q8b : ((i : Int) == (n : Int) - 1) = false := beq_eq_false_iff_ne.mpr (by omega)
        have hsb : sib i < n := by unfold sib; rw [if_pos hev]; omega
        by_cases hu : u < ps.length
        · have b0 : ((ps.length : Int) ≤ (u : Int)) = False := eq_false (by omega)
          have b1 : (ps.length ≤ u) = False := eq_false (by omega)
          have b2 : (u < ps.length) = True := eq_true hu
          have b3 : ((u : Int) < (ps.length : Int)) = True := eq_true (by omega)
          obtain ⟨x, hxe⟩ : ∃ x, x = ps.getD u [] := ⟨_, rfl⟩
          have HXE := Aside0.mk hxe
          have hx : x.length = 32 := by rw [hxe]; exact hread_len HPS.out u hu
          have HDR : Aside0 (ps.drop u = x :: ps.drop (u + 1)) := ⟨by rw [hxe, List.drop_eq_getElem_cons hu, List.getD_eq_getElem?_getD, List.getElem?_eq_getElem hu]; rfl⟩
          clear hxe
          have hA := HPS.out.2 (show 0 < ps.length by omega)
          obtain ⟨ad, rfl, _⟩ := hA
          have hu1 : u + 1 ≤ ps.length := hu
          obtain ⟨S, hS⟩ : ∃ S, S = nodeF h x := ⟨_, rfl⟩
          have hS32 : S.length = 32 := by rw [hS]; exact nodeF_len _ _
          have hzS : (brw 32 S).size = 32 := brw_size 32 S (by omega)
          have HN : ∀ W : World, Calls Try.prog 15 #[.agg (brw 32 h), .agg (brw 32 x)] W fun e w' => e = .returned (.agg (brw 32 S)) ∧ Below W.heap.size W w' := fun W => by
            rw [← B32_brw h hh, ← B32_brw x hx, ← B32_brw S hS32, hS]; exact rnode_calls _ _ hh hx W
          have HE3 : Aside0 (hl (n / 2 + n % 2) (i / 2) S (ps.drop (u + 1)) = hl m0 j0 L ps) := ⟨by rw [← HE.out, HDR.out, hl_more n i h x _ hlt hsb, if_pos hev, hS]⟩
          clear hS HE HDR
          go_upto_region 12 with (fail)
          refine start_ (n := 7) (S := fun W => W.heap[g11]? = some (.cells (brw 32 h) 23 (0, 0)) ∧ HRead (some ad) ps W) (ds := [6]) #[false, false, false, false, false, false, false] (by kernel_rfl) rfl rfl ⟨blk_drew C11.out, hread_below HPS.out (below_drew1 D0.out)⟩ (fun hHeld => ?_); refine with_tabW rhB.tab12 rhB.bits12 (fun HT_ HW_ => ?_)
          have n_C5 := Aside0.mk (blk_drew C5.out)
          have n_C11 := Aside0.mk (blk_drew C11.out)
          have n_D0 := Aside0.mk (below_drew1 D0.out)
          clear C5 C11 D0
          have C5 := n_C5
          have C11 := n_C11
          have D0 := n_D0
          clear n_C5 n_C11 n_D0
          generalize World.drew _ = wR at C5 C11 D0 hHeld ⊢
          refine take_ (i := 0) (N := some 49) (v := ?_) (a' := ?_) #[true, false, false, false, false, false, false] rfl rfl (take_ofW HT_.out HW_.out (by kernel_rfl)) (fun _ _ _ h => h) (Or.inl ⟨by rfl, ?_⟩) hHeld ?_ ?_
          rotate_left
          · rintro w' ⟨s0, s1⟩
            refine exec_load_row 23 (.tmp 11) ?_ g11 ?_ 23 (brw 32 h) (0, 0) _ s0 Try.underlying23 ?_ (by rw [hzh]; exact i23) <;> rfl
          rotate_left
          · simp only [Act.put, List.setIfInBounds_toArray, List.set_cons_zero, List.set_cons_succ, i64_w, i32_w]
            rfl
          refine pure_ (i := 1) (N := some 50) (v := ?_) (a' := ?_) #[true, true, false, false, false, false, false] rfl rfl (any_of HT_.out (by kernel_rfl)) (fun _ _ _ h => h) (Or.inl ⟨by rfl, ?_⟩) ?_ ?_
          rotate_left
          · intro w'
            go_simp
            with_reducible rfl
          rotate_left
          · simp only [Act.put, List.setIfInBounds_toArray, List.set_cons_zero, List.set_cons_succ, i64_w, i32_w]
            rfl
          refine pure_ (i := 2) (N := some 51) (v := ?_) (a' := ?_) #[true, true, true, false, false, false, false] rfl rfl (any_of HT_.out (by kernel_rfl)) (fun _ _ _ h => h) (Or.inl ⟨by rfl, ?_⟩) ?_ ?_
          rotate_left
          · intro w'
            go_simp
            with_reducible rfl
          rotate_left
          · simp only [Act.put, List.setIfInBounds_toArray, List.set_cons_zero, List.set_cons_succ, i64_w, i32_w]
            rfl
          refine pure_ (i := 3) (N := some 52) (v := ?_) (a' := ?_) #[true, true, true, true, false, false, false] rfl rfl (any_of HT_.out (by kernel_rfl)) (fun _ _ _ h => h) (Or.inl ⟨by rfl, ?_⟩) ?_ ?_
          rotate_left
          · intro w'
            go_simp
            with_reducible rfl
          rotate_left
          · simp only [Act.put, List.setIfInBounds_toArray, List.set_cons_zero, List.set_cons_succ, i64_w, i32_w]
            rfl
          refine take_ (i := 4) (N := some 53) (v := ?_) (a' := ?_) #[true, true, true, true, true, false, false] rfl rfl (take_ofW HT_.out HW_.out (by kernel_rfl)) (fun _ _ _ h => h) (Or.inl ⟨by rfl, ?_⟩) hHeld ?_ ?_
          rotate_left
          · rintro w' ⟨s0, s1⟩
            refine exec_load_hash (.tmp 52) ?_ (ad.add (u * 32)) ?_ x hx (by rw [HXE.out]; exact hread_at s1 u hu) <;> rfl
          rotate_left
          · simp only [Act.put, List.setIfInBounds_toArray, List.set_cons_zero, List.set_cons_succ, i64_w, i32_w]
            rfl
          refine one_ (i := 5) (N := some 54) #[true, true, true, true, true, true, false] rfl rfl (one_of HT_.out (by kernel_rfl)) (by decide) (fun K hK => ?_)
          refine goes_ Try.func15 (by kernel_rfl) rfl #[.agg (brw 32 h), .agg (brw 32 x)] (by rfl) rfl rfl (by (try simp only [List.map_toArray, List.map_cons, List.map_nil]); first | done | rfl) ?_
          with_reducible refine (HN _).mono ?_
          rintro e w2 ⟨rfl, hb⟩
          refine ⟨_, rfl, ?_⟩
          have n_C5 := Aside0.mk (blk_below C5.out hb)
          have n_C11 := Aside0.mk (blk_below C11.out hb)
          have n_D0 := Aside0.mk (below_then D0.out D0.out.size hb)
          clear C5 C11 D0
          have C5 := n_C5
          have C11 := n_C11
          have D0 := n_D0
          clear n_C5 n_C11 n_D0
          clear hb
          refine hK.out _ _ ⟨C11.out, hread_below HPS.out D0.out⟩ (fun hHeld => ?_)
          clear hK K
          refine norm_ (a' := ?_) ?_ ?_
          rotate_left
          · show Act.put _ (some 54) _ = _
            simp only [Act.put, List.setIfInBounds_toArray, List.set_cons_zero, List.set_cons_succ, i64_w, i32_w]
            rfl
          refine last_ (i := 6) (N := none) #[true, true, true, true, true, true, true] rfl rfl (one_of HT_.out (by kernel_rfl)) (by decide) (fun K hK => ?_)
          rw [if_pos (by rfl)]
          refine wp_store_row 23 (.tmp 11) (.tmp 54) rfl g11 (brw 32 S) rfl rfl 23 _ C11.out (by rw [hzS]; exact i23) (by rw [hzS, hzh]) (brw_one _ _) ?_
          refine hK.out _ _ ?_
          clear hK K
          refine norm_ (a' := ?_) ?_ ?_
          rotate_left
          · show Act.put _ (none) _ = _
            simp only [Act.put]
            rfl
          refine done_ (done_of HT_.out (by kernel_rfl)) ?_
          have C11' := Aside0.mk (setRow_heap _ g11 _ (brw 32 S) _ _ C11.out)
          have C5' := Aside0.mk ((setRow_other _ g11 g5 (brw 32 S) NE.out).trans C5.out)
          have D0' := Aside0.mk (below_setRow D0.out G11.out (brw 32 S))
          clear C11 C5 D0
          go_wp2
          go_roundw
          case rel => exact ⟨n / 2 + n % 2, i / 2, u + 1, S, by go_num, by go_num, by go_num, by omega, by omega, hS32, by omega, C5', C11', HE3, D0'⟩
          case measure => simp [intOf]; omega
        · have b0 : ((ps.length : Int) ≤ (u : Int)) = True := eq_true (by omega)
          have b1 : (ps.length ≤ u) = True := eq_true (by omega)
          have EN : Aside0 (told root (hl m0 j0 L ps) = false) := ⟨by rw [← HE.out, List.drop_eq_nil_of_le (by omega), hl_none n i h hlt hsb]; rfl⟩
          clear HE
          go_wp2
          go_ret
          exact ⟨by rw [E.out, EN.out]; rfl, D0.out⟩
      · have q6 : ((i : Int) % 2 = 0) = False := eq_false (by omega)
        have q6b : ((i : Int) % 2 == 0) = false := beq_eq_false_iff_ne.mpr (by omega)
        have q7 : ((i : Int) % 2 = 1) = True := eq_true (by omega)
        have q7b : ((i : Int) % 2 == 1) = true := beq_iff_eq.mpr (by omega)
        have hsb : sib i < n := by unfold sib; rw [if_neg hev]; omega
        by_cases hu : u < ps.length
        · have b0 : ((ps.length : Int) ≤ (u : Int)) = False := eq_false (by omega)
          have b1 : (ps.length ≤ u) = False := eq_false (by omega)
          have b2 : (u < ps.length) = True := eq_true hu
          have b3 : ((u : Int) < (ps.length : Int)) = True := eq_true (by omega)
          obtain ⟨x, hxe⟩ : ∃ x, x = ps.getD u [] := ⟨_, rfl⟩
          have HXE := Aside0.mk hxe
          have hx : x.length = 32 := by rw [hxe]; exact hread_len HPS.out u hu
          have HDR : Aside0 (ps.drop u = x :: ps.drop (u + 1)) := ⟨by rw [hxe, List.drop_eq_getElem_cons hu, List.getD_eq_getElem?_getD, List.getElem?_eq_getElem hu]; rfl⟩
          clear hxe
          have hA := HPS.out.2 (show 0 < ps.length by omega)
          obtain ⟨ad, rfl, _⟩ := hA
          have hu1 : u + 1 ≤ ps.length := hu
          obtain ⟨S, hS⟩ : ∃ S, S = nodeF x h := ⟨_, rfl⟩
          have hS32 : S.length = 32 := by rw [hS]; exact nodeF_len _ _
          have hzS : (brw 32 S).size = 32 := brw_size 32 S (by omega)
          have HN : ∀ W : World, Calls Try.prog 15 #[.agg (brw 32 x), .agg (brw 32 h)] W fun e w' => e = .returned (.agg (brw 32 S)) ∧ Below W.heap.size W w' := fun W => by
            rw [← B32_brw h hh, ← B32_brw x hx, ← B32_brw S hS32, hS]; exact rnode_calls _ _ hx hh W
          have HE3 : Aside0 (hl (n / 2 + n % 2) (i / 2) S (ps.drop (u + 1)) = hl m0 j0 L ps) := ⟨by rw [← HE.out, HDR.out, hl_more n i h x _ hlt hsb, if_neg hev, hS]⟩
          clear hS HE HDR
          go_upto_region 11 with (fail)
          refine start_ (n := 7) (S := fun W => W.heap[g11]? = some (.cells (brw 32 h) 23 (0, 0)) ∧ HRead (some ad) ps W) (ds := [6]) #[false, false, false, false, false, false, false] (by kernel_rfl) rfl rfl ⟨blk_drew C11.out, hread_below HPS.out (below_drew1 D0.out)⟩ (fun hHeld => ?_); refine with_tabW rhA.tab11 rhA.bits11 (fun HT_ HW_ => ?_)
          have n_C5 := Aside0.mk (blk_drew C5.out)
          have n_C11 := Aside0.mk (blk_drew C11.out)
          have n_D0 := Aside0.mk (below_drew1 D0.out)
          clear C5 C11 D0
          have C5 := n_C5
          have C11 := n_C11
          have D0 := n_D0
          clear n_C5 n_C11 n_D0
          generalize World.drew _ = wR at C5 C11 D0 hHeld ⊢
          refine pure_ (i := 0) (N := some 43) (v := ?_) (a' := ?_) #[true, false, false, false, false, false, false] rfl rfl (any_of HT_.out (by kernel_rfl)) (fun _ _ _ h => h) (Or.inl ⟨by rfl, ?_⟩) ?_ ?_
          rotate_left
          · intro w'
            go_simp
            with_reducible rfl
          rotate_left
          · simp only [Act.put, List.setIfInBounds_toArray, List.set_cons_zero, List.set_cons_succ, i64_w, i32_w]
            rfl
          refine pure_ (i := 1) (N := some 44) (v := ?_) (a' := ?_) #[true, true, false, false, false, false, false] rfl rfl (any_of HT_.out (by kernel_rfl)) (fun _ _ _ h => h) (Or.inl ⟨by rfl, ?_⟩) ?_ ?_
          rotate_left
          · intro w'
            go_simp
            with_reducible rfl
          rotate_left
          · simp only [Act.put, List.setIfInBounds_toArray, List.set_cons_zero, List.set_cons_succ, i64_w, i32_w]
            rfl
          refine pure_ (i := 2) (N := some 45) (v := ?_) (a' := ?_) #[true, true, true, false, false, false, false] rfl rfl (any_of HT_.out (by kernel_rfl)) (fun _ _ _ h => h) (Or.inl ⟨by rfl, ?_⟩) ?_ ?_
          rotate_left
          · intro w'
            go_simp
            with_reducible rfl
          rotate_left
          · simp only [Act.put, List.setIfInBounds_toArray, List.set_cons_zero, List.set_cons_succ, i64_w, i32_w]
            rfl
          refine take_ (i := 3) (N := some 46) (v := ?_) (a' := ?_) #[true, true, true, true, false, false, false] rfl rfl (take_ofW HT_.out HW_.out (by kernel_rfl)) (fun _ _ _ h => h) (Or.inl ⟨by rfl, ?_⟩) hHeld ?_ ?_
          rotate_left
          · rintro w' ⟨s0, s1⟩
            refine exec_load_hash (.tmp 45) ?_ (ad.add (u * 32)) ?_ x hx (by rw [HXE.out]; exact hread_at s1 u hu) <;> rfl
          rotate_left
          · simp only [Act.put, List.setIfInBounds_toArray, List.set_cons_zero, List.set_cons_succ, i64_w, i32_w]
            rfl
          refine take_ (i := 4) (N := some 47) (v := ?_) (a' := ?_) #[true, true, true, true, true, false, false] rfl rfl (take_ofW HT_.out HW_.out (by kernel_rfl)) (fun _ _ _ h => h) (Or.inl ⟨by rfl, ?_⟩) hHeld ?_ ?_
          rotate_left
          · rintro w' ⟨s0, s1⟩
            refine exec_load_row 23 (.tmp 11) ?_ g11 ?_ 23 (brw 32 h) (0, 0) _ s0 Try.underlying23 ?_ (by rw [hzh]; exact i23) <;> rfl
          rotate_left
          · simp only [Act.put, List.setIfInBounds_toArray, List.set_cons_zero, List.set_cons_succ, i64_w, i32_w]
            rfl
          refine one_ (i := 5) (N := some 48) #[true, true, true, true, true, true, false] rfl rfl (one_of HT_.out (by kernel_rfl)) (by decide) (fun K hK => ?_)
          refine goes_ Try.func15 (by kernel_rfl) rfl #[.agg (brw 32 x), .agg (brw 32 h)] (by rfl) rfl rfl (by (try simp only [List.map_toArray, List.map_cons, List.map_nil]); first | done | rfl) ?_
          with_reducible refine (HN _).mono ?_
          rintro e w2 ⟨rfl, hb⟩
          refine ⟨_, rfl, ?_⟩
          have n_C5 := Aside0.mk (blk_below C5.out hb)
          have n_C11 := Aside0.mk (blk_below C11.out hb)
          have n_D0 := Aside0.mk (below_then D0.out D0.out.size hb)
          clear C5 C11 D0
          have C5 := n_C5
          have C11 := n_C11
          have D0 := n_D0
          clear n_C5 n_C11 n_D0
          clear hb
          refine hK.out _ _ ⟨C11.out, hread_below HPS.out D0.out⟩ (fun hHeld => ?_)
          clear hK K
          refine norm_ (a' := ?_) ?_ ?_
          rotate_left
          · show Act.put _ (some 48) _ = _
            simp only [Act.put, List.setIfInBounds_toArray, List.set_cons_zero, List.set_cons_succ, i64_w, i32_w]
            rfl
          refine last_ (i := 6) (N := none) #[true, true, true, true, true, true, true] rfl rfl (one_of HT_.out (by kernel_rfl)) (by decide) (fun K hK => ?_)
          rw [if_pos (by rfl)]
          refine wp_store_row 23 (.tmp 11) (.tmp 48) rfl g11 (brw 32 S) rfl rfl 23 _ C11.out (by rw [hzS]; exact i23) (by rw [hzS, hzh]) (brw_one _ _) ?_
          refine hK.out _ _ ?_
          clear hK K
          refine norm_ (a' := ?_) ?_ ?_
          rotate_left
          · show Act.put _ (none) _ = _
            simp only [Act.put]
            rfl
          refine done_ (done_of HT_.out (by kernel_rfl)) ?_
          have C11' := Aside0.mk (setRow_heap _ g11 _ (brw 32 S) _ _ C11.out)
          have C5' := Aside0.mk ((setRow_other _ g11 g5 (brw 32 S) NE.out).trans C5.out)
          have D0' := Aside0.mk (below_setRow D0.out G11.out (brw 32 S))
          clear C11 C5 D0
          go_wp2
          go_roundw
          case rel => exact ⟨n / 2 + n % 2, i / 2, u + 1, S, by go_num, by go_num, by go_num, by omega, by omega, hS32, by omega, C5', C11', HE3, D0'⟩
          case measure => simp [intOf]; omega
        · have b0 : ((ps.length : Int) ≤ (u : Int)) = True := eq_true (by omega)
          have b1 : (ps.length ≤ u) = True := eq_true (by omega)
          have EN : Aside0 (told root (hl m0 j0 L ps) = false) := ⟨by rw [← HE.out, List.drop_eq_nil_of_le (by omega), hl_none n i h hlt hsb]; rfl⟩
          clear HE
          go_wp2
          go_ret
          exact ⟨by rw [E.out, EN.out]; rfl, D0.out⟩
    · have q4 : ((1 : Int) < (n : Int)) = False := eq_false (by omega)
      have q5 : (1 < n) = False := eq_false hlt
      rw [hl_one n i h (ps.drop u) hlt] at HE
      by_cases hul : u = ps.length
      · have q6 : ((u : Int) = (ps.length : Int)) = True := eq_true (by omega)
        have q6b : ((u : Int) == (ps.length : Int)) = true := beq_iff_eq.mpr (by omega)
        have EN : Aside0 (told root (hl m0 j0 L ps) = decide (h = root)) := ⟨by rw [← HE.out, List.drop_eq_nil_of_le (by omega)]; rfl⟩
        have heq := eq32 h root hh hroot
        rw [B32_brw h hh, B32_brw root hroot] at heq
        generalize decide (h = root) = bb at EN heq
        clear HE
        go_wp2_with (first
          | ((with_reducible refine gate_dst (N := 69) rfl ?_); refine gate_guard (by rfl) ?_; refine wpList_load_row rfl 23 (.tmp 11) rfl g11 rfl 23 (brw 32 h) (0, 0) _ C11.out Try.underlying23 rfl (by rw [hzh]; exact i23) ?_)
          | ((with_reducible refine gate_dst (N := 70) rfl ?_); refine gate_guard (by rfl) ?_; refine wpList_load_row rfl 23 (.tmp 5) rfl g5 rfl 23 (brw 32 root) (0, 0) _ C5.out Try.underlying23 rfl (by rw [hzr]; exact i23) ?_))
        go_ret
        exact ⟨by rw [E.out, EN.out]; rfl, D0.out⟩
      · have q6 : ((u : Int) = (ps.length : Int)) = False := eq_false (by omega)
        have q6b : ((u : Int) == (ps.length : Int)) = false := beq_eq_false_iff_ne.mpr (by omega)
        have EN : Aside0 (told root (hl m0 j0 L ps) = false) := ⟨by
          rw [← HE.out, List.drop_eq_getElem_cons (show u < ps.length by omega)]; rfl⟩
        clear HE
        go_wp2
        go_ret
        exact ⟨by rw [E.out, EN.out]; rfl, D0.out⟩
end Go.Proofs.Ythpnppfpmhlkaaa.Sha
