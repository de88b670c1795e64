/- Chapter 3: MerkleHolds, walked. -/
import Derived.Test.YthpnppfpmhlkaaaMkY
namespace Go.Proofs.Ythpnppfpmhlkaaa.Sha
open Go.RowKit Go.Proofs.Ythpnppfpmhlkaaa.X Go.Proofs.YthpnppfpmhlkaaaW.PrintWords Go.Proofs.YthpnppfpmhlkaaaW.PrintLast Go.Proofs.YthpnppfpmhlkaaaW.PrintMore
set_option linter.unusedVariables false
set_option linter.unusedSimpArgs false

set_option maxHeartbeats 8000000 in
set_option maxRecDepth 100000 in
theorem holds_big (A : Option Addr) (cp : Nat) (xs : List ByteArray) (more : List UInt8) (w : World) (hr : Kd.C Kd.string w A xs.length xs) (hcp : xs.length ≤ cp) (hn : xs.length ≤ 1048576) (hsz : ∀ s ∈ xs, s.size ≤ 1048576) (hmore : more.length = 32) (h3 : 300 < xs.length) :
    Calls Try.prog 5 #[.slice A xs.length cp, .agg (brw 32 more)] w fun e w' => e = .returned (.bool true) ∧ Below w.heap.size w w' := by
  have i23 : (Try.prog.info? 23).map (·.size) = some 32 := by kernel_rfl
  have hzm : (brw 32 more).size = 32 := brw_size 32 more (by omega)
  have hq := below_alloc (Below.refl w.heap.size w) (.cells (brw 32 more) 23)
  have C3 := Aside0.mk (blk_new w (.cells (brw 32 more) 23))
  have HR0 := Aside0.mk (Kd.C_below hr hq)
  have D0 := Aside0.mk hq
  have HSX := Aside0.mk hsz
  clear hr hq hsz
  go_enter Try.func5, Try.ntmps5
  go_upto_region 1 with (fail)
  change Code.wp _ _ _ _ (w.alloc (.cells (brw 32 more) 23))
  obtain ⟨g3, hg3⟩ : ∃ g, g = w.heap.size := ⟨_, rfl⟩
  rw [← hg3] at C3
  have P3 : (Value.pointer (some ⟨w.heap.size, 0, none⟩)) = .pointer (some ⟨g3, 0, none⟩) := by rw [hg3]
  rw [P3]
  clear P3 hg3
  generalize w.alloc (.cells (brw 32 more) 23) = w1 at C3 D0 HR0 ⊢
  · have q1 : ((300 : Int) < (xs.length : Int)) = True := eq_true (by omega)
    have q2 : (300 ≤ cp) = True := eq_true (by omega)
    obtain ⟨ys, hys⟩ : ∃ ys, ys = xs.take 300 := ⟨_, rfl⟩
    have hyl : ys.length = 300 := by rw [hys, List.length_take]; omega
    have HR : Aside0 (Kd.C Kd.string w1 A ys.length ys) := ⟨by rw [hyl, hys]; exact C_take HR0.out 300 (by omega)⟩
    have HSZ : Aside0 (∀ s ∈ ys, s.size ≤ 140737488355000) := ⟨fun s h => Nat.le_trans (HSX.out s (by rw [hys] at h; exact List.mem_of_mem_take h)) (by decide)⟩
    have hy3 : ys.length ≤ 300 := by omega
    have hyc : ys.length ≤ cp := by omega
    clear hys HR0 HSX
    go_upto_region 3 with (fail)
    rw [← hyl]
    clear q1 q2 h3 hn hcp hyl
    obtain ⟨R, hR⟩ : ∃ R, R = rootF ys := ⟨_, rfl⟩
    have hRl : R.length = 32 := by rw [hR]; exact rootF_len ys
    have HRT : ∀ W : World, Kd.C Kd.string W A ys.length ys → Calls Try.prog 9 #[.slice A ys.length cp] W fun e w' => e = .returned (.agg (brw 32 R)) ∧ Below W.heap.size W w' := fun W h => by
      rw [hR]; exact root_agg A cp ys W h hyc (by omega) HSZ.out
    have HRE := Aside0.mk hR
    clear hR
    go_wp2_with (first
      | (go_at_call 9; (with_reducible refine (HRT _ HR.out).mono ?_); rintro e w2 ⟨rfl, hb⟩; have n_D0 := Aside0.mk (below_then D0.out D0.out.size hb); have n_C3 := Aside0.mk (blk_below C3.out hb); have n_HR := Aside0.mk (Kd.C_below HR.out hb); clear D0 C3 HR hb; have D0 := n_D0; have C3 := n_C3; have HR := n_HR; clear n_D0 n_C3 n_HR)
      | ((with_reducible refine gate_store rfl ?_); refine wpList_put_new rfl (.tmp 5) (.tmp 20) rfl R hRl rfl rfl (fun w3 hc hb => ?_); have C5 := Aside0.mk hc; have n_D0 := Aside0.mk (below_then D0.out D0.out.size hb); have n_C3 := Aside0.mk (blk_below C3.out hb); have n_HR := Aside0.mk (Kd.C_below HR.out hb); clear D0 C3 HR hb hc; have D0 := n_D0; have C3 := n_C3; have HR := n_HR; clear n_D0 n_C3 n_HR))
    obtain ⟨g5, hg5⟩ : ∃ g, g = w2.heap.size := ⟨_, rfl⟩
    rw [← hg5] at C5
    have P5 : (Value.pointer (some ⟨w2.heap.size, 0, none⟩)) = .pointer (some ⟨g5, 0, none⟩) := by rw [hg5]
    rw [P5]
    clear P5 hg5
    go_loopw [6] (fun v6 W => ∃ i : Nat, i ≤ ys.length ∧ v6 = .int .i64 i ∧ Aside0 (W.heap[g3]? = some (.cells (brw 32 more) 23 (0, 0))) ∧ Aside0 (W.heap[g5]? = some (.cells (brw 32 R) 23 (0, 0))) ∧ Aside0 (Kd.C Kd.string W A ys.length ys) ∧ Aside0 (Below w.heap.size w W)) (fun v6 _ => ys.length - (intOf v6).toNat)
    case atStart => exact ⟨0, Nat.zero_le _, rfl, C3, C5, HR, D0⟩
    case round =>
      clear C3 C5 HR D0
      obtain ⟨i, hi, rfl, C3, C5, HR, D0⟩ := hrel
      by_cases hlt : i < ys.length
      · have q1 : ((i : Int) < (ys.length : Int)) = True := eq_true (by omega)
        have q2 : (i < ys.length) = True := eq_true hlt
        have q3 : (ys.length ≤ i) = False := eq_false (by omega)
        obtain ⟨ad, rfl, _⟩ := strs_at HR.out i hlt
        obtain ⟨y, hy⟩ : ∃ y, y = ys.getD i ByteArray.empty := ⟨_, rfl⟩
        have hyz : y.size ≤ 140737488355000 := by
          rw [hy, List.getD_eq_getElem?_getD, List.getElem?_eq_getElem hlt]
          exact HSZ.out _ (List.getElem_mem _)
        have hK := strs_at' HR.out i hlt
        rw [← hy] at hK
        have K0 := Aside0.mk hK
        clear hK
        obtain ⟨p, hp⟩ : ∃ p, p = pathF ys i := ⟨_, rfl⟩
        have hp9 : p.length ≤ 9 := by rw [hp]; exact path_nine ys i hy3
        have hp9i : ((9 : Int) < (p.length : Int)) = False := eq_false (by omega)
        have HPI : ∀ W : World, Kd.C Kd.string W (some ad) ys.length ys → _ := fun W h => path_in (some ad) cp ys i hlt p hp W h hyc (by omega) HSZ.out
        have HH1 : ∀ (W : World) (A1 : Option Addr) (c1 : Nat), p.length ≤ c1 → HRead A1 p W → Calls Try.prog 19 #[.agg (brw 32 R), .int .i64 ys.length, .int .i64 i, .string y, .slice A1 p.length c1] W fun e w' => e = .returned (.bool true) ∧ Below W.heap.size W w' := fun W A1 c1 hc h => by
          have := holds_calls R hRl ys.length i (by omega) y hyz A1 c1 p W hc h
          rw [hy, hp, HRE.out, holds_path ys i hlt, ← HRE.out, ← hp, ← hy] at this
          exact this
        have HH2 : ∀ (W : World) (A1 : Option Addr) (m c1 : Nat), m < p.length → p.length ≤ c1 → HRead A1 p W → Calls Try.prog 19 #[.agg (brw 32 R), .int .i64 ys.length, .int .i64 i, .string y, .slice A1 m c1] W fun e w' => e = .returned (.bool false) ∧ Below W.heap.size W w' := fun W A1 m c1 hm hc h => by
          have e1 : (p.take m).length = m := by rw [List.length_take]; omega
          have := holds_calls R hRl ys.length i (by omega) y hyz A1 c1 (p.take m) W (by omega) (hread_take h m)
          rw [e1, holds_less ys i hlt R y (p.take m) (by rw [e1, ← hp]; exact hm)] at this
          exact this
        have HH3 : ∀ (W : World) (A1 : Option Addr) (c1 : Nat), p.length + 1 ≤ c1 → HRead A1 (p ++ [more]) W → Calls Try.prog 19 #[.agg (brw 32 R), .int .i64 ys.length, .int .i64 i, .string y, .slice A1 (p.length + 1) c1] W fun e w' => e = .returned (.bool false) ∧ Below W.heap.size W w' := fun W A1 c1 hc h => by
          have e1 : (p ++ [more]).length = p.length + 1 := by rw [List.length_append]; rfl
          have := holds_calls R hRl ys.length i (by omega) y hyz A1 c1 (p ++ [more]) W (by omega) h
          rw [e1, hy, hp, holds_more ys i hlt R more, ← hp, ← hy] at this
          exact this
        clear hp hy
        go_upto_region 8 with (first
          | (go_at_call 17; (with_reducible refine (HPI _ HR.out).mono ?_); rintro e w7 ⟨A1, c1, rfl, hc1, hh, hb⟩; have HP := Aside0.mk hh; have n_D0 := Aside0.mk (below_then D0.out D0.out.size hb); have n_C3 := Aside0.mk (blk_below C3.out hb); have n_C5 := Aside0.mk (blk_below C5.out hb); have n_HR := Aside0.mk (Kd.C_below HR.out hb); have n_K0 := Aside0.mk (below_cell' hb K0.out); clear D0 C3 C5 HR K0 hb hh; have D0 := n_D0; have C3 := n_C3; have C5 := n_C5; have HR := n_HR; have K0 := n_K0; clear n_D0 n_C3 n_C5 n_HR n_K0))
        replace HH1 := fun W => HH1 W A1 c1 hc1
        refine start_ (n := 20) (S := fun W => Below w7.heap.size w7 W) (ds := []) #[false, false, false, false, false, false, false, false, false, false, false, false, false, false, false, false, false, false, false, false] (by kernel_rfl) rfl rfl (below_drew1 (Below.refl _ _)) (fun hHeld => ?_); refine with_tabW mhA.tab8 mhA.bits8 (fun HT_ HW_ => ?_)
        generalize World.drew _ = wR at hHeld ⊢
        refine pure_ (i := 0) (N := some 33) (v := ?_) (a' := ?_) #[true, false, false, false, false, false, false, false, false, false, false, false, false, false, false, false, false, false, false, false] rfl rfl (any_of HT_.out (by kernel_rfl)) (fun _ _ _ h => h) (Or.inl ⟨by rfl, ?_⟩) ?_ ?_
        rotate_left
        · intro w'
          go_simp
          with_reducible rfl
        rotate_left
        · simp only [Act.put, List.setIfInBounds_toArray, List.set_cons_zero, List.set_cons_succ, i64_w, i32_w]
          rfl
        refine pure_ (i := 1) (N := some 34) (v := ?_) (a' := ?_) #[true, true, false, false, false, false, false, false, false, false, false, false, false, false, false, false, false, false, false, false] rfl rfl (any_of HT_.out (by kernel_rfl)) (fun _ _ _ h => h) (Or.inl ⟨by rfl, ?_⟩) ?_ ?_
        rotate_left
        · intro w'
          go_simp
          with_reducible rfl
        rotate_left
        · simp only [Act.put, List.setIfInBounds_toArray, List.set_cons_zero, List.set_cons_succ, i64_w, i32_w]
          rfl
        refine pure_ (i := 2) (N := some 35) (v := ?_) (a' := ?_) #[true, true, true, false, false, false, false, false, false, false, false, false, false, false, false, false, false, false, false, false] rfl rfl (any_of HT_.out (by kernel_rfl)) (fun _ _ _ h => h) (Or.inl ⟨by rfl, ?_⟩) ?_ ?_
        rotate_left
        · intro w'
          go_simp
          with_reducible rfl
        rotate_left
        · simp only [Act.put, List.setIfInBounds_toArray, List.set_cons_zero, List.set_cons_succ, i64_w, i32_w]
          rfl
        refine take_ (i := 3) (N := some 36) (v := ?_) (a' := ?_) #[true, true, true, true, false, false, false, false, false, false, false, false, false, false, false, false, false, false, false, false] rfl rfl (take_ofW HT_.out HW_.out (by kernel_rfl)) (fun _ _ _ h => h) (Or.inl ⟨by rfl, ?_⟩) hHeld ?_ ?_
        rotate_left
        · rintro w' s0
          refine exec_load_row 23 (.tmp 5) ?_ g5 ?_ 23 (brw 32 R) (0, 0) _ (blk_below C5.out s0) Try.underlying23 ?_ (by rw [brw_size 32 R (by omega)]; exact i23) <;> rfl
        rotate_left
        · simp only [Act.put, List.setIfInBounds_toArray, List.set_cons_zero, List.set_cons_succ, i64_w, i32_w]
          rfl
        refine pure_ (i := 4) (N := some 37) (v := ?_) (a' := ?_) #[true, true, true, true, true, false, false, false, false, false, false, false, false, false, false, false, false, false, false, false] rfl rfl (any_of HT_.out (by kernel_rfl)) (fun _ _ _ h => h) (Or.inl ⟨by rfl, ?_⟩) ?_ ?_
        rotate_left
        · intro w'
          go_simp
          with_reducible rfl
        rotate_left
        · simp only [Act.put, List.setIfInBounds_toArray, List.set_cons_zero, List.set_cons_succ, i64_w, i32_w]
          rfl
        refine pure_ (i := 5) (N := some 38) (v := ?_) (a' := ?_) #[true, true, true, true, true, true, false, false, false, false, false, false, false, false, false, false, false, false, false, false] rfl rfl (any_of HT_.out (by kernel_rfl)) (fun _ _ _ h => h) (Or.inl ⟨by rfl, ?_⟩) ?_ ?_
        rotate_left
        · intro w'
          go_simp
          with_reducible rfl
        rotate_left
        · simp only [Act.put, List.setIfInBounds_toArray, List.set_cons_zero, List.set_cons_succ, i64_w, i32_w]
          rfl
        refine pure_ (i := 6) (N := some 39) (v := ?_) (a' := ?_) #[true, true, true, true, true, true, true, false, false, false, false, false, false, false, false, false, false, false, false, false] rfl rfl (any_of HT_.out (by kernel_rfl)) (fun _ _ _ h => h) (Or.inl ⟨by rfl, ?_⟩) ?_ ?_
        rotate_left
        · intro w'
          go_simp
          with_reducible rfl
        rotate_left
        · simp only [Act.put, List.setIfInBounds_toArray, List.set_cons_zero, List.set_cons_succ, i64_w, i32_w]
          rfl
        refine pure_ (i := 7) (N := some 40) (v := ?_) (a' := ?_) #[true, true, true, true, true, true, true, true, false, false, false, false, false, false, false, false, false, false, false, false] rfl rfl (any_of HT_.out (by kernel_rfl)) (fun _ _ _ h => h) (Or.inl ⟨by rfl, ?_⟩) ?_ ?_
        rotate_left
        · intro w'
          go_simp
          with_reducible rfl
        rotate_left
        · simp only [Act.put, List.setIfInBounds_toArray, List.set_cons_zero, List.set_cons_succ, i64_w, i32_w]
          rfl
        refine pure_ (i := 8) (N := some 41) (v := ?_) (a' := ?_) #[true, true, true, true, true, true, true, true, true, false, false, false, false, false, false, false, false, false, false, false] rfl rfl (any_of HT_.out (by kernel_rfl)) (fun _ _ _ h => h) (Or.inl ⟨by rfl, ?_⟩) ?_ ?_
        rotate_left
        · intro w'
          go_simp
          with_reducible rfl
        rotate_left
        · simp only [Act.put, List.setIfInBounds_toArray, List.set_cons_zero, List.set_cons_succ, i64_w, i32_w]
          rfl
        refine pure_ (i := 9) (N := some 42) (v := ?_) (a' := ?_) #[true, true, true, true, true, true, true, true, true, true, false, false, false, false, false, false, false, false, false, false] rfl rfl (any_of HT_.out (by kernel_rfl)) (fun _ _ _ h => h) (Or.inl ⟨by rfl, ?_⟩) ?_ ?_
        rotate_left
        · intro w'
          go_simp
          with_reducible rfl
        rotate_left
        · simp only [Act.put, List.setIfInBounds_toArray, List.set_cons_zero, List.set_cons_succ, i64_w, i32_w]
          rfl
        refine take_ (i := 10) (N := some 43) (v := ?_) (a' := ?_) #[true, true, true, true, true, true, true, true, true, true, true, false, false, false, false, false, false, false, false, false] rfl rfl (take_ofW HT_.out HW_.out (by kernel_rfl)) (fun _ _ _ h => h) (Or.inl ⟨by rfl, ?_⟩) hHeld ?_ ?_
        rotate_left
        · rintro w' s0
          have hK := below_cell' s0 K0.out
          go_simp
          with_reducible rfl
        rotate_left
        · simp only [Act.put, List.setIfInBounds_toArray, List.set_cons_zero, List.set_cons_succ, i64_w, i32_w]
          rfl
        refine pure_ (i := 11) (N := some 44) (v := ?_) (a' := ?_) #[true, true, true, true, true, true, true, true, true, true, true, true, false, false, false, false, false, false, false, false] rfl rfl (any_of HT_.out (by kernel_rfl)) (fun _ _ _ h => h) (Or.inl ⟨by rfl, ?_⟩) ?_ ?_
        rotate_left
        · intro w'
          go_simp
          with_reducible rfl
        rotate_left
        · simp only [Act.put, List.setIfInBounds_toArray, List.set_cons_zero, List.set_cons_succ, i64_w, i32_w]
          rfl
        refine one_ (i := 12) (N := some 45) #[true, true, true, true, true, true, true, true, true, true, true, true, true, false, false, false, false, false, false, false] rfl rfl (one_of HT_.out (by kernel_rfl)) (by decide) (fun K hK => ?_)
        refine goes_ Try.func19 (by kernel_rfl) rfl #[.agg (brw 32 R), .int .i64 ys.length, .int .i64 i, .string y, .slice A1 p.length c1] (by rfl) rfl rfl (by (try simp only [List.map_toArray, List.map_cons, List.map_nil]); first | done | rfl) ?_
        with_reducible refine (HH1 _ (hread_below HP.out hHeld)).mono ?_
        rintro e w_2 ⟨rfl, hb⟩
        refine ⟨_, rfl, ?_⟩
        have hb2 := below_then hHeld hHeld.size hb
        refine hK.out _ _ hb2 (fun hHeld => ?_)
        clear hK K
        refine norm_ (a' := ?_) ?_ ?_
        rotate_left
        · show Act.put _ (some 45) _ = _
          simp only [Act.put, List.setIfInBounds_toArray, List.set_cons_zero, List.set_cons_succ, i64_w, i32_w]
          rfl
        clear hb2 hb
        refine pure_ (i := 13) (N := some 46) (v := ?_) (a' := ?_) #[true, true, true, true, true, true, true, true, true, true, true, true, true, true, false, false, false, false, false, false] rfl rfl (any_of HT_.out (by kernel_rfl)) (fun _ _ _ h => h) (Or.inl ⟨by rfl, ?_⟩) ?_ ?_
        rotate_left
        · intro w'
          go_simp
          with_reducible rfl
        rotate_left
        · simp only [Act.put, List.setIfInBounds_toArray, List.set_cons_zero, List.set_cons_succ, i64_w, i32_w]
          rfl
        refine pure_ (i := 14) (N := some 47) (v := ?_) (a' := ?_) #[true, true, true, true, true, true, true, true, true, true, true, true, true, true, true, false, false, false, false, false] rfl rfl (any_of HT_.out (by kernel_rfl)) (fun _ _ _ h => h) (Or.inl ⟨by rfl, ?_⟩) ?_ ?_
        rotate_left
        · intro w'
          go_simp
          with_reducible rfl
        rotate_left
        · simp only [Act.put, List.setIfInBounds_toArray, List.set_cons_zero, List.set_cons_succ, i64_w, i32_w]
          rfl
        refine pure_ (i := 15) (N := some 48) (v := ?_) (a' := ?_) #[true, true, true, true, true, true, true, true, true, true, true, true, true, true, true, true, false, false, false, false] rfl rfl (any_of HT_.out (by kernel_rfl)) (fun _ _ _ h => h) (Or.inl ⟨by rfl, ?_⟩) ?_ ?_
        rotate_left
        · intro w'
          go_simp
          with_reducible rfl
        rotate_left
        · simp only [Act.put, List.setIfInBounds_toArray, List.set_cons_zero, List.set_cons_succ, i64_w, i32_w]
          rfl
        refine pure_ (i := 16) (N := some 49) (v := ?_) (a' := ?_) #[true, true, true, true, true, true, true, true, true, true, true, true, true, true, true, true, true, false, false, false] rfl rfl (any_of HT_.out (by kernel_rfl)) (fun _ _ _ h => h) (Or.inl ⟨by rfl, ?_⟩) ?_ ?_
        rotate_left
        · intro w'
          go_simp
          with_reducible rfl
        rotate_left
        · simp only [Act.put, List.setIfInBounds_toArray, List.set_cons_zero, List.set_cons_succ, i64_w, i32_w]
          rfl
        refine pure_ (i := 17) (N := some 50) (v := ?_) (a' := ?_) #[true, true, true, true, true, true, true, true, true, true, true, true, true, true, true, true, true, true, false, false] rfl rfl (any_of HT_.out (by kernel_rfl)) (fun _ _ _ h => h) (Or.inl ⟨by rfl, ?_⟩) ?_ ?_
        rotate_left
        · intro w'
          go_simp
          with_reducible rfl
        rotate_left
        · simp only [Act.put, List.setIfInBounds_toArray, List.set_cons_zero, List.set_cons_succ, i64_w, i32_w]
          rfl
        refine pure_ (i := 18) (N := some 51) (v := ?_) (a' := ?_) #[true, true, true, true, true, true, true, true, true, true, true, true, true, true, true, true, true, true, true, false] rfl rfl (any_of HT_.out (by kernel_rfl)) (fun _ _ _ h => h) (Or.inl ⟨by rfl, ?_⟩) ?_ ?_
        rotate_left
        · intro w'
          go_simp
          with_reducible rfl
        rotate_left
        · simp only [Act.put, List.setIfInBounds_toArray, List.set_cons_zero, List.set_cons_succ, i64_w, i32_w]
          rfl
        refine pure_ (i := 19) (N := some 52) (v := ?_) (a' := ?_) #[true, true, true, true, true, true, true, true, true, true, true, true, true, true, true, true, true, true, true, true] rfl rfl (any_of HT_.out (by kernel_rfl)) (fun _ _ _ h => h) (Or.inl ⟨by rfl, ?_⟩) ?_ ?_
        rotate_left
        · intro w'
          go_simp
          with_reducible rfl
        rotate_left
        · simp only [Act.put, List.setIfInBounds_toArray, List.set_cons_zero, List.set_cons_succ, i64_w, i32_w]
          rfl
        refine done_ (done_of HT_.out (by kernel_rfl)) ?_
        have n_D0 := Aside0.mk (below_then D0.out D0.out.size hHeld)
        have n_C3 := Aside0.mk (blk_below C3.out hHeld)
        have n_C5 := Aside0.mk (blk_below C5.out hHeld)
        have n_HR := Aside0.mk (Kd.C_below HR.out hHeld)
        have n_HP := Aside0.mk (hread_below HP.out hHeld)
        have n_K0 := Aside0.mk (below_cell' hHeld K0.out)
        clear D0 C3 C5 HR HP K0
        have D0 := n_D0
        have C3 := n_C3
        have C5 := n_C5
        have HR := n_HR
        have HP := n_HP
        have K0 := n_K0
        clear n_D0 n_C3 n_C5 n_HR n_HP n_K0
        by_cases hm0 : 0 < p.length
        · obtain ⟨m, hm⟩ : ∃ m, p.length = m + 1 := ⟨p.length - 1, by omega⟩
          replace HH2 := fun W => HH2 W A1 m c1 (by omega) hc1
          have t1 : (m ≤ c1) = True := eq_true (by omega)
          have t2 : ((0 : Int) < (p.length : Int)) = True := eq_true (by omega)
          have t3 : (p.length : Int) - 1 = (m : Int) := by omega
          have t4 := wrap_nat
          have t6 : (m ≤ 1000) = True := eq_true (by omega)
          have t5 : ((m : Int) ≤ (c1 : Int)) = True := eq_true (by omega)
          clear hm
          go_upto_region 10 with (fail)
          refine start_ (n := 19) (S := fun W => Below w_2.heap.size w_2 W) (ds := []) #[false, false, false, false, false, false, false, false, false, false, false, false, false, false, false, false, false, false, false] (by kernel_rfl) rfl rfl (below_drew1 (Below.refl _ _)) (fun hHeld => ?_); refine with_tabW mhB.tab10 mhB.bits10 (fun HT_ HW_ => ?_)
          generalize World.drew _ = wR at hHeld ⊢
          refine pure_ (i := 0) (N := some 53) (v := ?_) (a' := ?_) #[true, false, false, false, false, false, false, false, false, false, false, false, false, false, false, false, false, false, false] rfl rfl (any_of HT_.out (by kernel_rfl)) (fun _ _ _ h => h) (Or.inl ⟨by rfl, ?_⟩) ?_ ?_
          rotate_left
          · intro w'
            go_simp
            with_reducible rfl
          rotate_left
          · simp only [Act.put, List.setIfInBounds_toArray, List.set_cons_zero, List.set_cons_succ, i64_w, i32_w]
            rfl
          refine pure_ (i := 1) (N := some 54) (v := ?_) (a' := ?_) #[true, true, false, false, false, false, false, false, false, false, false, false, false, false, false, false, false, false, false] rfl rfl (any_of HT_.out (by kernel_rfl)) (fun _ _ _ h => h) (Or.inl ⟨by rfl, ?_⟩) ?_ ?_
          rotate_left
          · intro w'
            go_simp
            with_reducible rfl
          rotate_left
          · simp only [Act.put, List.setIfInBounds_toArray, List.set_cons_zero, List.set_cons_succ, i64_w, i32_w]
            rfl
          refine pure_ (i := 2) (N := some 55) (v := ?_) (a' := ?_) #[true, true, true, false, false, false, false, false, false, false, false, false, false, false, false, false, false, false, false] rfl rfl (any_of HT_.out (by kernel_rfl)) (fun _ _ _ h => h) (Or.inl ⟨by rfl, ?_⟩) ?_ ?_
          rotate_left
          · intro w'
            go_simp
            with_reducible rfl
          rotate_left
          · simp only [Act.put, List.setIfInBounds_toArray, List.set_cons_zero, List.set_cons_succ, i64_w, i32_w]
            rfl
          refine pure_ (i := 3) (N := some 56) (v := ?_) (a' := ?_) #[true, true, true, true, false, false, false, false, false, false, false, false, false, false, false, false, false, false, false] rfl rfl (any_of HT_.out (by kernel_rfl)) (fun _ _ _ h => h) (Or.inl ⟨by rfl, ?_⟩) ?_ ?_
          rotate_left
          · intro w'
            go_simp
            with_reducible rfl
          rotate_left
          · simp only [Act.put, List.setIfInBounds_toArray, List.set_cons_zero, List.set_cons_succ, i64_w, i32_w]
            rfl
          refine take_ (i := 4) (N := some 57) (v := ?_) (a' := ?_) #[true, true, true, true, true, false, false, false, false, false, false, false, false, false, false, false, false, false, false] rfl rfl (take_ofW HT_.out HW_.out (by kernel_rfl)) (fun _ _ _ h => h) (Or.inl ⟨by rfl, ?_⟩) hHeld ?_ ?_
          rotate_left
          · rintro w' s0
            refine exec_load_row 23 (.tmp 5) ?_ g5 ?_ 23 (brw 32 R) (0, 0) _ (blk_below C5.out s0) Try.underlying23 ?_ (by rw [brw_size 32 R (by omega)]; exact i23) <;> rfl
          rotate_left
          · simp only [Act.put, List.setIfInBounds_toArray, List.set_cons_zero, List.set_cons_succ, i64_w, i32_w]
            rfl
          refine pure_ (i := 5) (N := some 58) (v := ?_) (a' := ?_) #[true, true, true, true, true, true, false, false, false, false, false, false, false, false, false, false, false, false, false] rfl rfl (any_of HT_.out (by kernel_rfl)) (fun _ _ _ h => h) (Or.inl ⟨by rfl, ?_⟩) ?_ ?_
          rotate_left
          · intro w'
            go_simp
            with_reducible rfl
          rotate_left
          · simp only [Act.put, List.setIfInBounds_toArray, List.set_cons_zero, List.set_cons_succ, i64_w, i32_w]
            rfl
          refine pure_ (i := 6) (N := some 59) (v := ?_) (a' := ?_) #[true, true, true, true, true, true, true, false, false, false, false, false, false, false, false, false, false, false, false] rfl rfl (any_of HT_.out (by kernel_rfl)) (fun _ _ _ h => h) (Or.inl ⟨by rfl, ?_⟩) ?_ ?_
          rotate_left
          · intro w'
            go_simp
            with_reducible rfl
          rotate_left
          · simp only [Act.put, List.setIfInBounds_toArray, List.set_cons_zero, List.set_cons_succ, i64_w, i32_w]
            rfl
          refine pure_ (i := 7) (N := some 60) (v := ?_) (a' := ?_) #[true, true, true, true, true, true, true, true, false, false, false, false, false, false, false, false, false, false, false] rfl rfl (any_of HT_.out (by kernel_rfl)) (fun _ _ _ h => h) (Or.inl ⟨by rfl, ?_⟩) ?_ ?_
          rotate_left
          · intro w'
            go_simp
            with_reducible rfl
          rotate_left
          · simp only [Act.put, List.setIfInBounds_toArray, List.set_cons_zero, List.set_cons_succ, i64_w, i32_w]
            rfl
          refine pure_ (i := 8) (N := some 61) (v := ?_) (a' := ?_) #[true, true, true, true, true, true, true, true, true, false, false, false, false, false, false, false, false, false, false] rfl rfl (any_of HT_.out (by kernel_rfl)) (fun _ _ _ h => h) (Or.inl ⟨by rfl, ?_⟩) ?_ ?_
          rotate_left
          · intro w'
            go_simp
            with_reducible rfl
          rotate_left
          · simp only [Act.put, List.setIfInBounds_toArray, List.set_cons_zero, List.set_cons_succ, i64_w, i32_w]
            rfl
          refine pure_ (i := 9) (N := some 62) (v := ?_) (a' := ?_) #[true, true, true, true, true, true, true, true, true, true, false, false, false, false, false, false, false, false, false] rfl rfl (any_of HT_.out (by kernel_rfl)) (fun _ _ _ h => h) (Or.inl ⟨by rfl, ?_⟩) ?_ ?_
          rotate_left
          · intro w'
            go_simp
            with_reducible rfl
          rotate_left
          · simp only [Act.put, List.setIfInBounds_toArray, List.set_cons_zero, List.set_cons_succ, i64_w, i32_w]
            rfl
          refine pure_ (i := 10) (N := some 63) (v := ?_) (a' := ?_) #[true, true, true, true, true, true, true, true, true, true, true, false, false, false, false, false, false, false, false] rfl rfl (any_of HT_.out (by kernel_rfl)) (fun _ _ _ h => h) (Or.inl ⟨by rfl, ?_⟩) ?_ ?_
          rotate_left
          · intro w'
            go_simp
            with_reducible rfl
          rotate_left
          · simp only [Act.put, List.setIfInBounds_toArray, List.set_cons_zero, List.set_cons_succ, i64_w, i32_w]
            rfl
          refine take_ (i := 11) (N := some 64) (v := ?_) (a' := ?_) #[true, true, true, true, true, true, true, true, true, true, true, true, false, false, false, false, false, false, false] rfl rfl (take_ofW HT_.out HW_.out (by kernel_rfl)) (fun _ _ _ h => h) (Or.inl ⟨by rfl, ?_⟩) hHeld ?_ ?_
          rotate_left
          · rintro w' s0
            have hK := below_cell' s0 K0.out
            go_simp
            with_reducible rfl
          rotate_left
          · simp only [Act.put, List.setIfInBounds_toArray, List.set_cons_zero, List.set_cons_succ, i64_w, i32_w]
            rfl
          refine pure_ (i := 12) (N := some 65) (v := ?_) (a' := ?_) #[true, true, true, true, true, true, true, true, true, true, true, true, true, false, false, false, false, false, false] rfl rfl (any_of HT_.out (by kernel_rfl)) (fun _ _ _ h => h) (Or.inl ⟨by rfl, ?_⟩) ?_ ?_
          rotate_left
          · intro w'
            go_simp
            with_reducible rfl
          rotate_left
          · simp only [Act.put, List.setIfInBounds_toArray, List.set_cons_zero, List.set_cons_succ, i64_w, i32_w]
            rfl
          refine pure_ (i := 13) (N := some 66) (v := ?_) (a' := ?_) #[true, true, true, true, true, true, true, true, true, true, true, true, true, true, false, false, false, false, false] rfl rfl (any_of HT_.out (by kernel_rfl)) (fun _ _ _ h => h) (Or.inl ⟨by rfl, ?_⟩) ?_ ?_
          rotate_left
          · intro w'
            go_simp
            with_reducible rfl
          rotate_left
          · simp only [Act.put, List.setIfInBounds_toArray, List.set_cons_zero, List.set_cons_succ, i64_w, i32_w]
            rfl
          refine pure_ (i := 14) (N := some 67) (v := ?_) (a' := ?_) #[true, true, true, true, true, true, true, true, true, true, true, true, true, true, true, false, false, false, false] rfl rfl (any_of HT_.out (by kernel_rfl)) (fun _ _ _ h => h) (Or.inl ⟨by rfl, ?_⟩) ?_ ?_
          rotate_left
          · intro w'
            go_simp
            with_reducible rfl
          rotate_left
          · simp only [Act.put, List.setIfInBounds_toArray, List.set_cons_zero, List.set_cons_succ, i64_w, i32_w]
            rfl
          refine pure_ (i := 15) (N := some 68) (v := ?_) (a' := ?_) #[true, true, true, true, true, true, true, true, true, true, true, true, true, true, true, true, false, false, false] rfl rfl (any_of HT_.out (by kernel_rfl)) (fun _ _ _ h => h) (Or.inl ⟨by rfl, ?_⟩) ?_ ?_
          rotate_left
          · intro w'
            go_simp
            with_reducible rfl
          rotate_left
          · simp only [Act.put, List.setIfInBounds_toArray, List.set_cons_zero, List.set_cons_succ, i64_w, i32_w]
            rfl
          refine pure_ (i := 16) (N := some 69) (v := ?_) (a' := ?_) #[true, true, true, true, true, true, true, true, true, true, true, true, true, true, true, true, true, false, false] rfl rfl (any_of HT_.out (by kernel_rfl)) (fun _ _ _ h => h) (Or.inl ⟨by rfl, ?_⟩) ?_ ?_
          rotate_left
          · intro w'
            go_simp
            with_reducible rfl
          rotate_left
          · simp only [Act.put, List.setIfInBounds_toArray, List.set_cons_zero, List.set_cons_succ, i64_w, i32_w]
            rfl
          refine one_ (i := 17) (N := some 70) #[true, true, true, true, true, true, true, true, true, true, true, true, true, true, true, true, true, true, false] rfl rfl (one_of HT_.out (by kernel_rfl)) (by decide) (fun K hK => ?_)
          refine goes_ Try.func19 (by kernel_rfl) rfl #[.agg (brw 32 R), .int .i64 ys.length, .int .i64 i, .string y, .slice A1 m c1] (by rfl) rfl rfl (by (try simp only [List.map_toArray, List.map_cons, List.map_nil]); first | done | rfl) ?_
          with_reducible refine (HH2 _ (hread_below HP.out hHeld)).mono ?_
          rintro e w_2 ⟨rfl, hb⟩
          refine ⟨_, rfl, ?_⟩
          have hb2 := below_then hHeld hHeld.size hb
          refine hK.out _ _ hb2 (fun hHeld => ?_)
          clear hK K
          refine norm_ (a' := ?_) ?_ ?_
          rotate_left
          · show Act.put _ (some 70) _ = _
            simp only [Act.put, List.setIfInBounds_toArray, List.set_cons_zero, List.set_cons_succ, i64_w, i32_w]
            rfl
          clear hb2 hb
          refine pure_ (i := 18) (N := some 71) (v := ?_) (a' := ?_) #[true, true, true, true, true, true, true, true, true, true, true, true, true, true, true, true, true, true, true] rfl rfl (any_of HT_.out (by kernel_rfl)) (fun _ _ _ h => h) (Or.inl ⟨by rfl, ?_⟩) ?_ ?_
          rotate_left
          · intro w'
            go_simp
            with_reducible rfl
          rotate_left
          · simp only [Act.put, List.setIfInBounds_toArray, List.set_cons_zero, List.set_cons_succ, i64_w, i32_w]
            rfl
          refine done_ (done_of HT_.out (by kernel_rfl)) ?_
          have n_D0 := Aside0.mk (below_then D0.out D0.out.size hHeld)
          have n_C3 := Aside0.mk (blk_below C3.out hHeld)
          have n_C5 := Aside0.mk (blk_below C5.out hHeld)
          have n_HR := Aside0.mk (Kd.C_below HR.out hHeld)
          have n_HP := Aside0.mk (hread_below HP.out hHeld)
          have n_K0 := Aside0.mk (below_cell' hHeld K0.out)
          clear D0 C3 C5 HR HP K0
          have D0 := n_D0
          have C3 := n_C3
          have C5 := n_C5
          have HR := n_HR
          have HP := n_HP
          have K0 := n_K0
          clear n_D0 n_C3 n_C5 n_HR n_HP n_K0
          have HCP := copy_hrows A1 c1 p w_2 HP.out (by omega)
          obtain ⟨v12, w12, ha1, ha2, ha3⟩ := HCP
          have HAP := append_hrows w_2.heap.size v12 p [more] w_2 (w12.alloc (.cells (brw 32 more) 23)) ⟨w12.heap.size, 0, none⟩ 1 (hrow_below ha2 (below_alloc (Below.refl _ _) _)) (below_alloc ha3 _) (below_alloc ha3 _).size (hread_one hmore (blk_new w12 (.cells (brw 32 more) 23))) (by show _ + 1 ≤ _; omega)
          obtain ⟨v15, w15, hc1', hc2, hc3, _, _⟩ := HAP
          obtain ⟨A9, c9, rfl, hc9, hgr⟩ := hrow_read hc2
          have e3 : (p ++ [more]).length = p.length + 1 := by rw [List.length_append]; rfl
          rw [e3] at hc1' hc9
          have HQ := Aside0.mk hgr
          have HA1 := Aside0.mk ha1
          have HC1 := Aside0.mk hc1'
          have HB9 := Aside0.mk hc3
          have C3m := Aside0.mk (blk_below C3.out ha3)
          clear ha1 ha2 ha3 hc1' hc2 hc3 hgr
          go_upto_region 15 with (first
            | ((with_reducible refine gate_dst (N := 74) rfl ?_); go_loud (refine Kd.event_run rfl (exec_append31 (.tmp 72) (.tmp 73) rfl rfl _ _ rfl rfl HA1.out) ?_))
            | ((with_reducible refine gate_dst (N := 76) rfl ?_); refine wpList_load_row rfl 23 (.tmp 3) rfl g3 rfl 23 (brw 32 more) (0, 0) _ C3m.out Try.underlying23 rfl (by rw [hzm]; exact i23) ?_)
            | ((with_reducible refine gate_dst (N := 77) rfl ?_); go_loud (refine Kd.event_run rfl (exec_build1 (.tmp 76) rfl more hmore (by rfl)) ?_))
            | ((with_reducible refine gate_dst (N := 78) rfl ?_); go_loud (refine Kd.event_run rfl (exec_append31 (.tmp 75) (.tmp 77) rfl rfl _ _ rfl rfl HC1.out) ?_)))
          have n_D0 := Aside0.mk (below_then D0.out D0.out.size HB9.out)
          have n_C3 := Aside0.mk (blk_below C3.out HB9.out)
          have n_C5 := Aside0.mk (blk_below C5.out HB9.out)
          have n_HR := Aside0.mk (Kd.C_below HR.out HB9.out)
          have n_K0 := Aside0.mk (below_cell' HB9.out K0.out)
          clear D0 C3 C5 HR HP K0 HB9 HA1 HC1 C3m
          have D0 := n_D0
          have C3 := n_C3
          have C5 := n_C5
          have HR := n_HR
          have K0 := n_K0
          clear n_D0 n_C3 n_C5 n_HR n_K0
          refine start_ (n := 10) (S := fun W => Below w15.heap.size w15 W) (ds := []) #[false, false, false, false, false, false, false, false, false, false] (by kernel_rfl) rfl rfl (below_drew1 (Below.refl _ _)) (fun hHeld => ?_); refine with_tabW mhC.tab15 mhC.bits15 (fun HT_ HW_ => ?_)
          generalize World.drew _ = wR at hHeld ⊢
          refine take_ (i := 0) (N := some 79) (v := ?_) (a' := ?_) #[true, false, false, false, false, false, false, false, false, false] rfl rfl (take_ofW HT_.out HW_.out (by kernel_rfl)) (fun _ _ _ h => h) (Or.inl ⟨by rfl, ?_⟩) hHeld ?_ ?_
          rotate_left
          · rintro w' s0
            refine exec_load_row 23 (.tmp 5) ?_ g5 ?_ 23 (brw 32 R) (0, 0) _ (blk_below C5.out s0) Try.underlying23 ?_ (by rw [brw_size 32 R (by omega)]; exact i23) <;> rfl
          rotate_left
          · simp only [Act.put, List.setIfInBounds_toArray, List.set_cons_zero, List.set_cons_succ, i64_w, i32_w]
            rfl
          refine pure_ (i := 1) (N := some 80) (v := ?_) (a' := ?_) #[true, true, false, false, false, false, false, false, false, false] rfl rfl (any_of HT_.out (by kernel_rfl)) (fun _ _ _ h => h) (Or.inl ⟨by rfl, ?_⟩) ?_ ?_
          rotate_left
          · intro w'
            go_simp
            with_reducible rfl
          rotate_left
          · simp only [Act.put, List.setIfInBounds_toArray, List.set_cons_zero, List.set_cons_succ, i64_w, i32_w]
            rfl
          refine pure_ (i := 2) (N := some 81) (v := ?_) (a' := ?_) #[true, true, true, false, false, false, false, false, false, false] rfl rfl (any_of HT_.out (by kernel_rfl)) (fun _ _ _ h => h) (Or.inl ⟨by rfl, ?_⟩) ?_ ?_
          rotate_left
          · intro w'
            go_simp
            with_reducible rfl
          rotate_left
          · simp only [Act.put, List.setIfInBounds_toArray, List.set_cons_zero, List.set_cons_succ, i64_w, i32_w]
            rfl
          refine pure_ (i := 3) (N := some 82) (v := ?_) (a' := ?_) #[true, true, true, true, false, false, false, false, false, false] rfl rfl (any_of HT_.out (by kernel_rfl)) (fun _ _ _ h => h) (Or.inl ⟨by rfl, ?_⟩) ?_ ?_
          rotate_left
          · intro w'
            go_simp
            with_reducible rfl
          rotate_left
          · simp only [Act.put, List.setIfInBounds_toArray, List.set_cons_zero, List.set_cons_succ, i64_w, i32_w]
            rfl
          refine pure_ (i := 4) (N := some 83) (v := ?_) (a' := ?_) #[true, true, true, true, true, false, false, false, false, false] rfl rfl (any_of HT_.out (by kernel_rfl)) (fun _ _ _ h => h) (Or.inl ⟨by rfl, ?_⟩) ?_ ?_
          rotate_left
          · intro w'
            go_simp
            with_reducible rfl
          rotate_left
          · simp only [Act.put, List.setIfInBounds_toArray, List.set_cons_zero, List.set_cons_succ, i64_w, i32_w]
            rfl
          refine pure_ (i := 5) (N := some 84) (v := ?_) (a' := ?_) #[true, true, true, true, true, true, false, false, false, false] rfl rfl (any_of HT_.out (by kernel_rfl)) (fun _ _ _ h => h) (Or.inl ⟨by rfl, ?_⟩) ?_ ?_
          rotate_left
          · intro w'
            go_simp
            with_reducible rfl
          rotate_left
          · simp only [Act.put, List.setIfInBounds_toArray, List.set_cons_zero, List.set_cons_succ, i64_w, i32_w]
            rfl
          refine pure_ (i := 6) (N := some 85) (v := ?_) (a' := ?_) #[true, true, true, true, true, true, true, false, false, false] rfl rfl (any_of HT_.out (by kernel_rfl)) (fun _ _ _ h => h) (Or.inl ⟨by rfl, ?_⟩) ?_ ?_
          rotate_left
          · intro w'
            go_simp
            with_reducible rfl
          rotate_left
          · simp only [Act.put, List.setIfInBounds_toArray, List.set_cons_zero, List.set_cons_succ, i64_w, i32_w]
            rfl
          refine take_ (i := 7) (N := some 86) (v := ?_) (a' := ?_) #[true, true, true, true, true, true, true, true, false, false] rfl rfl (take_ofW HT_.out HW_.out (by kernel_rfl)) (fun _ _ _ h => h) (Or.inl ⟨by rfl, ?_⟩) hHeld ?_ ?_
          rotate_left
          · rintro w' s0
            have hK := below_cell' s0 K0.out
            go_simp
            with_reducible rfl
          rotate_left
          · simp only [Act.put, List.setIfInBounds_toArray, List.set_cons_zero, List.set_cons_succ, i64_w, i32_w]
            rfl
          refine pure_ (i := 8) (N := some 87) (v := ?_) (a' := ?_) #[true, true, true, true, true, true, true, true, true, false] rfl rfl (any_of HT_.out (by kernel_rfl)) (fun _ _ _ h => h) (Or.inl ⟨by rfl, ?_⟩) ?_ ?_
          rotate_left
          · intro w'
            go_simp
            with_reducible rfl
          rotate_left
          · simp only [Act.put, List.setIfInBounds_toArray, List.set_cons_zero, List.set_cons_succ, i64_w, i32_w]
            rfl
          refine one_ (i := 9) (N := some 88) #[true, true, true, true, true, true, true, true, true, true] rfl rfl (one_of HT_.out (by kernel_rfl)) (by decide) (fun K hK => ?_)
          refine goes_ Try.func19 (by kernel_rfl) rfl #[.agg (brw 32 R), .int .i64 ys.length, .int .i64 i, .string y, .slice A9 (p.length + 1) c9] (by rfl) rfl rfl (by (try simp only [List.map_toArray, List.map_cons, List.map_nil]); first | done | rfl) ?_
          with_reducible refine (HH3 _ A9 c9 hc9 (hread_below HQ.out hHeld)).mono ?_
          rintro e w_2 ⟨rfl, hb⟩
          refine ⟨_, rfl, ?_⟩
          have hb2 := below_then hHeld hHeld.size hb
          refine hK.out _ _ hb2 (fun hHeld => ?_)
          clear hK K
          refine norm_ (a' := ?_) ?_ ?_
          rotate_left
          · show Act.put _ (some 88) _ = _
            simp only [Act.put, List.setIfInBounds_toArray, List.set_cons_zero, List.set_cons_succ, i64_w, i32_w]
            rfl
          clear hb2 hb
          refine done_ (done_of HT_.out (by kernel_rfl)) ?_
          have n_D0 := Aside0.mk (below_then D0.out D0.out.size hHeld)
          have n_C3 := Aside0.mk (blk_below C3.out hHeld)
          have n_C5 := Aside0.mk (blk_below C5.out hHeld)
          have n_HR := Aside0.mk (Kd.C_below HR.out hHeld)
          have n_HQ := Aside0.mk (hread_below HQ.out hHeld)
          have n_K0 := Aside0.mk (below_cell' hHeld K0.out)
          clear D0 C3 C5 HR HQ K0
          have D0 := n_D0
          have C3 := n_C3
          have C5 := n_C5
          have HR := n_HR
          have HQ := n_HQ
          have K0 := n_K0
          clear n_D0 n_C3 n_C5 n_HR n_HQ n_K0
          go_wp2
          go_roundw
          case rel => exact ⟨i + 1, by omega, by go_num, C3, C5, HR, D0⟩
          case measure => simp [intOf]; omega
        · have t2 : ((0 : Int) < (p.length : Int)) = False := eq_false (by omega)
          go_upto_region 10 with (fail)
          refine start_ (n := 19) (S := fun W => Below w_2.heap.size w_2 W) (ds := []) #[false, false, false, false, false, false, false, false, false, false, false, false, false, false, false, false, false, false, false] (by kernel_rfl) rfl rfl (below_drew1 (Below.refl _ _)) (fun hHeld => ?_); refine with_tabW mhB.tab10 mhB.bits10 (fun HT_ HW_ => ?_)
          generalize World.drew _ = wR at hHeld ⊢
          refine pure_ (i := 0) (N := some 53) (v := ?_) (a' := ?_) #[true, false, false, false, false, false, false, false, false, false, false, false, false, false, false, false, false, false, false] rfl rfl (any_of HT_.out (by kernel_rfl)) (fun _ _ _ h => h) (Or.inl ⟨by rfl, ?_⟩) ?_ ?_
          rotate_left
          · intro w'
            go_simp
            with_reducible rfl
          rotate_left
          · simp only [Act.put, List.setIfInBounds_toArray, List.set_cons_zero, List.set_cons_succ, i64_w, i32_w]
            rfl
          refine pure_ (i := 1) (N := some 54) (v := ?_) (a' := ?_) #[true, true, false, false, false, false, false, false, false, false, false, false, false, false, false, false, false, false, false] rfl rfl (any_of HT_.out (by kernel_rfl)) (fun _ _ _ h => h) (Or.inl ⟨by rfl, ?_⟩) ?_ ?_
          rotate_left
          · intro w'
            go_simp
            with_reducible rfl
          rotate_left
          · simp only [Act.put, List.setIfInBounds_toArray, List.set_cons_zero, List.set_cons_succ, i64_w, i32_w]
            rfl
          refine pure_ (i := 2) (N := some 55) (v := ?_) (a' := ?_) #[true, true, true, false, false, false, false, false, false, false, false, false, false, false, false, false, false, false, false] rfl rfl (any_of HT_.out (by kernel_rfl)) (fun _ _ _ h => h) (Or.inl ⟨by rfl, ?_⟩) ?_ ?_
          rotate_left
          · intro w'
            go_simp
            with_reducible rfl
          rotate_left
          · simp only [Act.put, List.setIfInBounds_toArray, List.set_cons_zero, List.set_cons_succ, i64_w, i32_w]
            rfl
          refine pure_ (i := 3) (N := some 56) (v := ?_) (a' := ?_) #[true, true, true, true, false, false, false, false, false, false, false, false, false, false, false, false, false, false, false] rfl rfl (any_of HT_.out (by kernel_rfl)) (fun _ _ _ h => h) (Or.inl ⟨by rfl, ?_⟩) ?_ ?_
          rotate_left
          · intro w'
            go_simp
            with_reducible rfl
          rotate_left
          · simp only [Act.put, List.setIfInBounds_toArray, List.set_cons_zero, List.set_cons_succ, i64_w, i32_w]
            rfl
          refine pure_ (i := 4) (N := some 57) (v := undef) (a' := ?_) #[true, true, true, true, true, false, false, false, false, false, false, false, false, false, false, false, false, false, false] rfl rfl (any_of HT_.out (by kernel_rfl)) (fun _ _ _ h => h) (Or.inr ⟨by rfl, rfl⟩) ?_ ?_
          rotate_left
          · simp only [Act.put, List.setIfInBounds_toArray, List.set_cons_zero, List.set_cons_succ, i64_w, i32_w]
            rfl
          refine pure_ (i := 5) (N := some 58) (v := undef) (a' := ?_) #[true, true, true, true, true, true, false, false, false, false, false, false, false, false, false, false, false, false, false] rfl rfl (any_of HT_.out (by kernel_rfl)) (fun _ _ _ h => h) (Or.inr ⟨by rfl, rfl⟩) ?_ ?_
          rotate_left
          · simp only [Act.put, List.setIfInBounds_toArray, List.set_cons_zero, List.set_cons_succ, i64_w, i32_w]
            rfl
          refine pure_ (i := 6) (N := some 59) (v := undef) (a' := ?_) #[true, true, true, true, true, true, true, false, false, false, false, false, false, false, false, false, false, false, false] rfl rfl (any_of HT_.out (by kernel_rfl)) (fun _ _ _ h => h) (Or.inr ⟨by rfl, rfl⟩) ?_ ?_
          rotate_left
          · simp only [Act.put, List.setIfInBounds_toArray, List.set_cons_zero, List.set_cons_succ, i64_w, i32_w]
            rfl
          refine pure_ (i := 7) (N := some 60) (v := undef) (a' := ?_) #[true, true, true, true, true, true, true, true, false, false, false, false, false, false, false, false, false, false, false] rfl rfl (any_of HT_.out (by kernel_rfl)) (fun _ _ _ h => h) (Or.inr ⟨by rfl, rfl⟩) ?_ ?_
          rotate_left
          · simp only [Act.put, List.setIfInBounds_toArray, List.set_cons_zero, List.set_cons_succ, i64_w, i32_w]
            rfl
          refine pure_ (i := 8) (N := some 61) (v := undef) (a' := ?_) #[true, true, true, true, true, true, true, true, true, false, false, false, false, false, false, false, false, false, false] rfl rfl (any_of HT_.out (by kernel_rfl)) (fun _ _ _ h => h) (Or.inr ⟨by rfl, rfl⟩) ?_ ?_
          rotate_left
          · simp only [Act.put, List.setIfInBounds_toArray, List.set_cons_zero, List.set_cons_succ, i64_w, i32_w]
            rfl
          refine pure_ (i := 9) (N := some 62) (v := undef) (a' := ?_) #[true, true, true, true, true, true, true, true, true, true, false, false, false, false, false, false, false, false, false] rfl rfl (any_of HT_.out (by kernel_rfl)) (fun _ _ _ h => h) (Or.inr ⟨by rfl, rfl⟩) ?_ ?_
          rotate_left
          · simp only [Act.put, List.setIfInBounds_toArray, List.set_cons_zero, List.set_cons_succ, i64_w, i32_w]
            rfl
          refine pure_ (i := 10) (N := some 63) (v := undef) (a' := ?_) #[true, true, true, true, true, true, true, true, true, true, true, false, false, false, false, false, false, false, false] rfl rfl (any_of HT_.out (by kernel_rfl)) (fun _ _ _ h => h) (Or.inr ⟨by rfl, rfl⟩) ?_ ?_
          rotate_left
          · simp only [Act.put, List.setIfInBounds_toArray, List.set_cons_zero, List.set_cons_succ, i64_w, i32_w]
            rfl
          refine pure_ (i := 11) (N := some 64) (v := undef) (a' := ?_) #[true, true, true, true, true, true, true, true, true, true, true, true, false, false, false, false, false, false, false] rfl rfl (any_of HT_.out (by kernel_rfl)) (fun _ _ _ h => h) (Or.inr ⟨by rfl, rfl⟩) ?_ ?_
          rotate_left
          · simp only [Act.put, List.setIfInBounds_toArray, List.set_cons_zero, List.set_cons_succ, i64_w, i32_w]
            rfl
          refine pure_ (i := 12) (N := some 65) (v := undef) (a' := ?_) #[true, true, true, true, true, true, true, true, true, true, true, true, true, false, false, false, false, false, false] rfl rfl (any_of HT_.out (by kernel_rfl)) (fun _ _ _ h => h) (Or.inr ⟨by rfl, rfl⟩) ?_ ?_
          rotate_left
          · simp only [Act.put, List.setIfInBounds_toArray, List.set_cons_zero, List.set_cons_succ, i64_w, i32_w]
            rfl
          refine pure_ (i := 13) (N := some 66) (v := undef) (a' := ?_) #[true, true, true, true, true, true, true, true, true, true, true, true, true, true, false, false, false, false, false] rfl rfl (any_of HT_.out (by kernel_rfl)) (fun _ _ _ h => h) (Or.inr ⟨by rfl, rfl⟩) ?_ ?_
          rotate_left
          · simp only [Act.put, List.setIfInBounds_toArray, List.set_cons_zero, List.set_cons_succ, i64_w, i32_w]
            rfl
          refine pure_ (i := 14) (N := some 67) (v := undef) (a' := ?_) #[true, true, true, true, true, true, true, true, true, true, true, true, true, true, true, false, false, false, false] rfl rfl (any_of HT_.out (by kernel_rfl)) (fun _ _ _ h => h) (Or.inr ⟨by rfl, rfl⟩) ?_ ?_
          rotate_left
          · simp only [Act.put, List.setIfInBounds_toArray, List.set_cons_zero, List.set_cons_succ, i64_w, i32_w]
            rfl
          refine pure_ (i := 15) (N := some 68) (v := undef) (a' := ?_) #[true, true, true, true, true, true, true, true, true, true, true, true, true, true, true, true, false, false, false] rfl rfl (any_of HT_.out (by kernel_rfl)) (fun _ _ _ h => h) (Or.inr ⟨by rfl, rfl⟩) ?_ ?_
          rotate_left
          · simp only [Act.put, List.setIfInBounds_toArray, List.set_cons_zero, List.set_cons_succ, i64_w, i32_w]
            rfl
          refine pure_ (i := 16) (N := some 69) (v := undef) (a' := ?_) #[true, true, true, true, true, true, true, true, true, true, true, true, true, true, true, true, true, false, false] rfl rfl (any_of HT_.out (by kernel_rfl)) (fun _ _ _ h => h) (Or.inr ⟨by rfl, rfl⟩) ?_ ?_
          rotate_left
          · simp only [Act.put, List.setIfInBounds_toArray, List.set_cons_zero, List.set_cons_succ, i64_w, i32_w]
            rfl
          refine pure_ (i := 17) (N := some 70) (v := undef) (a' := ?_) #[true, true, true, true, true, true, true, true, true, true, true, true, true, true, true, true, true, true, false] rfl rfl (any_of HT_.out (by kernel_rfl)) (fun _ _ _ h => h) (Or.inr ⟨by rfl, rfl⟩) ?_ ?_
          rotate_left
          · simp only [Act.put, List.setIfInBounds_toArray, List.set_cons_zero, List.set_cons_succ, i64_w, i32_w]
            rfl
          refine pure_ (i := 18) (N := some 71) (v := ?_) (a' := ?_) #[true, true, true, true, true, true, true, true, true, true, true, true, true, true, true, true, true, true, true] rfl rfl (any_of HT_.out (by kernel_rfl)) (fun _ _ _ h => h) (Or.inl ⟨by rfl, ?_⟩) ?_ ?_
          rotate_left
          · intro w'
            go_simp
            with_reducible rfl
          rotate_left
          · simp only [Act.put, List.setIfInBounds_toArray, List.set_cons_zero, List.set_cons_succ, i64_w, i32_w]
            rfl
          refine done_ (done_of HT_.out (by kernel_rfl)) ?_
          have n_D0 := Aside0.mk (below_then D0.out D0.out.size hHeld)
          have n_C3 := Aside0.mk (blk_below C3.out hHeld)
          have n_C5 := Aside0.mk (blk_below C5.out hHeld)
          have n_HR := Aside0.mk (Kd.C_below HR.out hHeld)
          have n_HP := Aside0.mk (hread_below HP.out hHeld)
          have n_K0 := Aside0.mk (below_cell' hHeld K0.out)
          clear D0 C3 C5 HR HP K0
          have D0 := n_D0
          have C3 := n_C3
          have C5 := n_C5
          have HR := n_HR
          have HP := n_HP
          have K0 := n_K0
          clear n_D0 n_C3 n_C5 n_HR n_HP n_K0
          have HCP := copy_hrows A1 c1 p wR HP.out (by omega)
          obtain ⟨v12, w12, ha1, ha2, ha3⟩ := HCP
          have HAP := append_hrows wR.heap.size v12 p [more] wR (w12.alloc (.cells (brw 32 more) 23)) ⟨w12.heap.size, 0, none⟩ 1 (hrow_below ha2 (below_alloc (Below.refl _ _) _)) (below_alloc ha3 _) (below_alloc ha3 _).size (hread_one hmore (blk_new w12 (.cells (brw 32 more) 23))) (by show _ + 1 ≤ _; omega)
          obtain ⟨v15, w15, hc1', hc2, hc3, _, _⟩ := HAP
          obtain ⟨A9, c9, rfl, hc9, hgr⟩ := hrow_read hc2
          have e3 : (p ++ [more]).length = p.length + 1 := by rw [List.length_append]; rfl
          rw [e3] at hc1' hc9
          have HQ := Aside0.mk hgr
          have HA1 := Aside0.mk ha1
          have HC1 := Aside0.mk hc1'
          have HB9 := Aside0.mk hc3
          have C3m := Aside0.mk (blk_below C3.out ha3)
          clear ha1 ha2 ha3 hc1' hc2 hc3 hgr
          go_upto_region 15 with (first
            | ((with_reducible refine gate_dst (N := 74) rfl ?_); go_loud (refine Kd.event_run rfl (exec_append31 (.tmp 72) (.tmp 73) rfl rfl _ _ rfl rfl HA1.out) ?_))
            | ((with_reducible refine gate_dst (N := 76) rfl ?_); refine wpList_load_row rfl 23 (.tmp 3) rfl g3 rfl 23 (brw 32 more) (0, 0) _ C3m.out Try.underlying23 rfl (by rw [hzm]; exact i23) ?_)
            | ((with_reducible refine gate_dst (N := 77) rfl ?_); go_loud (refine Kd.event_run rfl (exec_build1 (.tmp 76) rfl more hmore (by rfl)) ?_))
            | ((with_reducible refine gate_dst (N := 78) rfl ?_); go_loud (refine Kd.event_run rfl (exec_append31 (.tmp 75) (.tmp 77) rfl rfl _ _ rfl rfl HC1.out) ?_)))
          have n_D0 := Aside0.mk (below_then D0.out D0.out.size HB9.out)
          have n_C3 := Aside0.mk (blk_below C3.out HB9.out)
          have n_C5 := Aside0.mk (blk_below C5.out HB9.out)
          have n_HR := Aside0.mk (Kd.C_below HR.out HB9.out)
          have n_K0 := Aside0.mk (below_cell' HB9.out K0.out)
          clear D0 C3 C5 HR HP K0 HB9 HA1 HC1 C3m
          have D0 := n_D0
          have C3 := n_C3
          have C5 := n_C5
          have HR := n_HR
          have K0 := n_K0
          clear n_D0 n_C3 n_C5 n_HR n_K0
          refine start_ (n := 10) (S := fun W => Below w15.heap.size w15 W) (ds := []) #[false, false, false, false, false, false, false, false, false, false] (by kernel_rfl) rfl rfl (below_drew1 (Below.refl _ _)) (fun hHeld => ?_); refine with_tabW mhC.tab15 mhC.bits15 (fun HT_ HW_ => ?_)
          generalize World.drew _ = wR at hHeld ⊢
          refine take_ (i := 0) (N := some 79) (v := ?_) (a' := ?_) #[true, false, false, false, false, false, false, false, false, false] rfl rfl (take_ofW HT_.out HW_.out (by kernel_rfl)) (fun _ _ _ h => h) (Or.inl ⟨by rfl, ?_⟩) hHeld ?_ ?_
          rotate_left
          · rintro w' s0
            refine exec_load_row 23 (.tmp 5) ?_ g5 ?_ 23 (brw 32 R) (0, 0) _ (blk_below C5.out s0) Try.underlying23 ?_ (by rw [brw_size 32 R (by omega)]; exact i23) <;> rfl
          rotate_left
          · simp only [Act.put, List.setIfInBounds_toArray, List.set_cons_zero, List.set_cons_succ, i64_w, i32_w]
            rfl
          refine pure_ (i := 1) (N := some 80) (v := ?_) (a' := ?_) #[true, true, false, false, false, false, false, false, false, false] rfl rfl (any_of HT_.out (by kernel_rfl)) (fun _ _ _ h => h) (Or.inl ⟨by rfl, ?_⟩) ?_ ?_
          rotate_left
          · intro w'
            go_simp
            with_reducible rfl
          rotate_left
          · simp only [Act.put, List.setIfInBounds_toArray, List.set_cons_zero, List.set_cons_succ, i64_w, i32_w]
            rfl
          refine pure_ (i := 2) (N := some 81) (v := ?_) (a' := ?_) #[true, true, true, false, false, false, false, false, false, false] rfl rfl (any_of HT_.out (by kernel_rfl)) (fun _ _ _ h => h) (Or.inl ⟨by rfl, ?_⟩) ?_ ?_
          rotate_left
          · intro w'
            go_simp
            with_reducible rfl
          rotate_left
          · simp only [Act.put, List.setIfInBounds_toArray, List.set_cons_zero, List.set_cons_succ, i64_w, i32_w]
            rfl
          refine pure_ (i := 3) (N := some 82) (v := ?_) (a' := ?_) #[true, true, true, true, false, false, false, false, false, false] rfl rfl (any_of HT_.out (by kernel_rfl)) (fun _ _ _ h => h) (Or.inl ⟨by rfl, ?_⟩) ?_ ?_
          rotate_left
          · intro w'
            go_simp
            with_reducible rfl
          rotate_left
          · simp only [Act.put, List.setIfInBounds_toArray, List.set_cons_zero, List.set_cons_succ, i64_w, i32_w]
            rfl
          refine pure_ (i := 4) (N := some 83) (v := ?_) (a' := ?_) #[true, true, true, true, true, false, false, false, false, false] rfl rfl (any_of HT_.out (by kernel_rfl)) (fun _ _ _ h => h) (Or.inl ⟨by rfl, ?_⟩) ?_ ?_
          rotate_left
          · intro w'
            go_simp
            with_reducible rfl
          rotate_left
          · simp only [Act.put, List.setIfInBounds_toArray, List.set_cons_zero, List.set_cons_succ, i64_w, i32_w]
            rfl
          refine pure_ (i := 5) (N := some 84) (v := ?_) (a' := ?_) #[true, true, true, true, true, true, false, false, false, false] rfl rfl (any_of HT_.out (by kernel_rfl)) (fun _ _ _ h => h) (Or.inl ⟨by rfl, ?_⟩) ?_ ?_
          rotate_left
          · intro w'
            go_simp
            with_reducible rfl
          rotate_left
          · simp only [Act.put, List.setIfInBounds_toArray, List.set_cons_zero, List.set_cons_succ, i64_w, i32_w]
            rfl
          refine pure_ (i := 6) (N := some 85) (v := ?_) (a' := ?_) #[true, true, true, true, true, true, true, false, false, false] rfl rfl (any_of HT_.out (by kernel_rfl)) (fun _ _ _ h => h) (Or.inl ⟨by rfl, ?_⟩) ?_ ?_
          rotate_left
          · intro w'
            go_simp
            with_reducible rfl
          rotate_left
          · simp only [Act.put, List.setIfInBounds_toArray, List.set_cons_zero, List.set_cons_succ, i64_w, i32_w]
            rfl
          refine take_ (i := 7) (N := some 86) (v := ?_) (a' := ?_) #[true, true, true, true, true, true, true, true, false, false] rfl rfl (take_ofW HT_.out HW_.out (by kernel_rfl)) (fun _ _ _ h => h) (Or.inl ⟨by rfl, ?_⟩) hHeld ?_ ?_
          rotate_left
          · rintro w' s0
            have hK := below_cell' s0 K0.out
            go_simp
            with_reducible rfl
          rotate_left
          · simp only [Act.put, List.setIfInBounds_toArray, List.set_cons_zero, List.set_cons_succ, i64_w, i32_w]
            rfl
          refine pure_ (i := 8) (N := some 87) (v := ?_) (a' := ?_) #[true, true, true, true, true, true, true, true, true, false] rfl rfl (any_of HT_.out (by kernel_rfl)) (fun _ _ _ h => h) (Or.inl ⟨by rfl, ?_⟩) ?_ ?_
          rotate_left
          · intro w'
            go_simp
            with_reducible rfl
          rotate_left
          · simp only [Act.put, List.setIfInBounds_toArray, List.set_cons_zero, List.set_cons_succ, i64_w, i32_w]
            rfl
          refine one_ (i := 9) (N := some 88) #[true, true, true, true, true, true, true, true, true, true] rfl rfl (one_of HT_.out (by kernel_rfl)) (by decide) (fun K hK => ?_)
          refine goes_ Try.func19 (by kernel_rfl) rfl #[.agg (brw 32 R), .int .i64 ys.length, .int .i64 i, .string y, .slice A9 (p.length + 1) c9] (by rfl) rfl rfl (by (try simp only [List.map_toArray, List.map_cons, List.map_nil]); first | done | rfl) ?_
          with_reducible refine (HH3 _ A9 c9 hc9 (hread_below HQ.out hHeld)).mono ?_
          rintro e w_2 ⟨rfl, hb⟩
          refine ⟨_, rfl, ?_⟩
          have hb2 := below_then hHeld hHeld.size hb
          refine hK.out _ _ hb2 (fun hHeld => ?_)
          clear hK K
          refine norm_ (a' := ?_) ?_ ?_
          rotate_left
          · show Act.put _ (some 88) _ = _
            simp only [Act.put, List.setIfInBounds_toArray, List.set_cons_zero, List.set_cons_succ, i64_w, i32_w]
            rfl
          clear hb2 hb
          refine done_ (done_of HT_.out (by kernel_rfl)) ?_
          have n_D0 := Aside0.mk (below_then D0.out D0.out.size hHeld)
          have n_C3 := Aside0.mk (blk_below C3.out hHeld)
          have n_C5 := Aside0.mk (blk_below C5.out hHeld)
          have n_HR := Aside0.mk (Kd.C_below HR.out hHeld)
          have n_HQ := Aside0.mk (hread_below HQ.out hHeld)
          have n_K0 := Aside0.mk (below_cell' hHeld K0.out)
          clear D0 C3 C5 HR HQ K0
          have D0 := n_D0
          have C3 := n_C3
          have C5 := n_C5
          have HR := n_HR
          have HQ := n_HQ
          have K0 := n_K0
          clear n_D0 n_C3 n_C5 n_HR n_HQ n_K0
          go_wp2
          go_roundw
          case rel => exact ⟨i + 1, by omega, by go_num, C3, C5, HR, D0⟩
          case measure => simp [intOf]; omega
      · have q1 : ((i : Int) < (ys.length : Int)) = False := eq_false (by omega)
        have HPO1 : ∀ W : World, Kd.C Kd.string W A ys.length ys → Calls Try.prog 17 #[.slice A ys.length cp, .int .i64 (ys.length : Int)] W fun e w' => ∃ A1 c1, e = .returned (.tuple #[.slice A1 0 c1, .int .i64 1]) ∧ Below W.heap.size W w' := fun W h => path_out A cp ys ys.length (by omega) W h hyc (by omega) HSZ.out
        have HPO2 : ∀ W : World, Kd.C Kd.string W A ys.length ys → Calls Try.prog 17 #[.slice A ys.length cp, .int .i64 (-1)] W fun e w' => ∃ A1 c1, e = .returned (.tuple #[.slice A1 0 c1, .int .i64 1]) ∧ Below W.heap.size W w' := fun W h => path_out A cp ys (-1) (by omega) W h hyc (by omega) HSZ.out
        have HHN : ∀ (W : World) (j : Int), ¬ (0 ≤ j ∧ j < ys.length) → Calls Try.prog 19 #[.agg (brw 32 R), .int .i64 ys.length, .int .i64 j, .string ⟨#[]⟩, .slice none 0 0] W fun e w' => e = .returned (.bool false) ∧ Below W.heap.size W w' := fun W j hj => by
          have := holds_calls R hRl ys.length j (by omega) ⟨#[]⟩ (by decide) none 0 [] W (Nat.le_refl _) ⟨fun x h => (by cases h), fun h => (by cases h)⟩
          have e : holdsF R ys.length j ⟨#[]⟩ [] = false := by unfold holdsF; rw [if_neg hj]
          rw [e] at this
          exact this
        have hzR : (brw 32 R).size = 32 := brw_size 32 R (by omega)
        have HX1 := fun W => HHN W ys.length (by omega)
        have HX2 := fun W => HHN W (-1) (by omega)
        go_wp2_with (first
          | (go_at_call 17; (with_reducible refine (HPO1 _ HR.out).mono ?_); rintro e w20 ⟨A1, c1, rfl, hb⟩; have n_D0 := Aside0.mk (below_then D0.out D0.out.size hb); have n_C5 := Aside0.mk (blk_below C5.out hb); have n_HR := Aside0.mk (Kd.C_below HR.out hb); clear D0 C5 HR hb; have D0 := n_D0; have C5 := n_C5; have HR := n_HR; clear n_D0 n_C5 n_HR)
          | (go_at_call 17; (with_reducible refine (HPO2 _ HR.out).mono ?_); rintro e w21 ⟨A2, c2, rfl, hb⟩; have n_D0 := Aside0.mk (below_then D0.out D0.out.size hb); have n_C5 := Aside0.mk (blk_below C5.out hb); have n_HR := Aside0.mk (Kd.C_below HR.out hb); clear D0 C5 HR hb; have D0 := n_D0; have C5 := n_C5; have HR := n_HR; clear n_D0 n_C5 n_HR)
          | ((with_reducible refine gate_dst (N := 118) rfl ?_); refine gate_guard (by rfl) ?_; refine wpList_load_row rfl 23 (.tmp 5) rfl g5 rfl 23 (brw 32 R) (0, 0) _ C5.out Try.underlying23 rfl (by rw [hzR]; exact i23) ?_)
          | ((with_reducible refine gate_dst (N := 127) rfl ?_); refine gate_guard (by rfl) ?_; refine wpList_load_row rfl 23 (.tmp 5) rfl g5 rfl 23 (brw 32 R) (0, 0) _ C5.out Try.underlying23 rfl (by rw [hzR]; exact i23) ?_)
          | (go_at_call 19; (with_reducible refine (HX1 _).mono ?_); rintro e w22 ⟨rfl, hb⟩; have n_D0 := Aside0.mk (below_then D0.out D0.out.size hb); have n_C5 := Aside0.mk (blk_below C5.out hb); clear D0 C5 hb; have D0 := n_D0; have C5 := n_C5; clear n_D0 n_C5)
          | (go_at_call 19; (with_reducible refine (HX2 _).mono ?_); rintro e w23 ⟨rfl, hb⟩; have n_D0 := Aside0.mk (below_then D0.out D0.out.size hb); clear D0 hb; have D0 := n_D0; clear n_D0)
          | (go_at_call 16; (with_reducible refine (first_calls _).mono ?_); rintro e w24 ⟨rfl, hb⟩; have n_D0 := Aside0.mk (below_then D0.out D0.out.size hb); clear D0 hb; have D0 := n_D0; clear n_D0))
        go_ret
        exact ⟨rfl, D0.out⟩
theorem holds_walk (A : Option Addr) (cp : Nat) (xs : List ByteArray) (more : List UInt8) (w : World) (hr : Kd.C Kd.string w A xs.length xs) (hcp : xs.length ≤ cp) (hn : xs.length ≤ 1048576) (hsz : ∀ s ∈ xs, s.size ≤ 1048576) (hmore : more.length = 32) :
    Calls Try.prog 5 #[.slice A xs.length cp, .agg (brw 32 more)] w fun e w' => e = .returned (.bool true) ∧ Below w.heap.size w w' := by
  by_cases h3 : 300 < xs.length
  · exact holds_big A cp xs more w hr hcp hn hsz hmore h3
  · exact holds_small A cp xs more w hr hcp hn hsz hmore h3
end Go.Proofs.Ythpnppfpmhlkaaa.Sha
