/- Chapter 6: the document's Crash and On. -/
import Derived.Test.YtebhmbdblifddaaDkQ
namespace Go.Proofs.Ytebhmbdblifddaa.Dk
open Go.RowKit Go.Maps Go.Proofs.Ytebhmbdblifddaa.X Go.Proofs.YtebhmbdblifddaaW.PrintWords Go.Proofs.YtebhmbdblifddaaW.PrintLast Go.Proofs.YtebhmbdblifddaaW.PrintMore
set_option linter.unusedVariables false
set_option linter.unusedSimpArgs false

def drc.T8 : Bool × List (List Nat × List Nat) := (true, [([], []), ([0], [0]), ([1], [1]), ([2], [2]), ([], []), ([4], [4]), ([5], [5]), ([6], [6]), ([], []), ([7, 8], [7, 8]), ([9], [9]), ([10], [10]), ([], []), ([12], [12]), ([13], [13]), ([14], [14]), ([], []), ([15, 16], [15, 16]), ([17], [17]), ([18], [18]), ([3, 11, 0, 1, 2, 3, 4, 5, 6, 7, 8, 9, 10, 11, 12, 13, 14, 15, 16, 17, 18, 19], [3, 11]), ([20, 19, 0, 1, 2, 3, 4, 5, 6, 7, 8, 9, 10, 11, 12, 13, 14, 15, 16, 17, 18, 19], [19, 20])])
def drc.B8 : List Nat := [0, 1, 3, 7, 0, 16, 48, 112, 0, 496, 1008, 2032, 0, 4096, 12288, 28672, 0, 126976, 258048, 520192, 1048575, 2097151]
theorem drc.tab8 : rtab .any (opsOf Try.f38 8) = drc.T8 := by kernel_rfl
theorem drc.bits8 : waitsOk drc.T8.2 drc.B8 = true := by kernel_rfl
set_option maxHeartbeats 8000000 in
set_option maxRecDepth 100000 in
theorem rcrash_calls {base : Nat} {L : Nat → Sl} {N i g : Nat} {s : DS} {w : World} (A : Option Addr) (c : Nat) (ks : List Int) (hk : ∀ W, Below base w W → Kd.C (Kd.int .i64) W A ks.length ks) (hkl : ks.length ≤ 549755813888)
    (h : Many base L N w) (hd : DiskR L i g s) (hi : i + 3 ≤ N) (hbase : base ≤ w.heap.size) (hp : s.pend.length ≤ 549755813888) (hok : ∀ p ∈ s.pend, 0 ≤ p.1 ∧ p.1 < s.safe.length) :
    Calls Try.prog 38 #[.pointer (some ⟨g, 0, none⟩), .slice A ks.length c] w fun e w' => e = .returned (.tuple #[]) ∧ ∃ L', Many base L' N w' ∧ DiskR L' i g (crashS s ks) ∧ Else3 L L' i ∧ Below base w w' := by
  obtain ⟨_, _, h2, h3, _, _, _⟩ := diskr_cells h hd hi
  have HM := Aside0.mk h
  have HD := Aside0.mk hd
  have HBS := Aside0.mk hbase
  have HOK := Aside0.mk hok
  have HK := Aside0.mk hk
  clear h hd hbase hok hk
  go_enter Try.func38, Try.ntmps38
  by_cases hoo : s.off = true ∧ s.opn = false
  · have E : Aside0 (crashS s ks = s) := ⟨by unfold crashS; rw [if_pos hoo]⟩
    rw [hoo.1] at h2
    rw [hoo.2] at h3
    go_wp2
    refine bodyPost_ret (results_none rfl _ _ _) rfl ?_
    exact ⟨rfl, L, HM.out, by rw [E.out]; exact HD.out, fun _ _ => rfl, below_refl_at _ base⟩
  have E : Aside0 (crashS s ks = { seen := done s.safe (keptW ks s.pend 0), safe := done s.safe (keptW ks s.pend 0), pend := [], fall := 0, off := true, opn := false }) := ⟨by unfold crashS; rw [if_neg hoo]⟩
  have hst : (s.off = false) ∨ (s.off = true ∧ s.opn = true) := by
    cases h1 : s.off with
    | false => exact .inl rfl
    | true =>
      cases h2 : s.opn with
      | true => exact .inr ⟨rfl, rfl⟩
      | false => exact (hoo ⟨h1, h2⟩).elim
  clear hoo
  rcases hst with h0 | ⟨h0, h1⟩
  · rw [h0] at h2
    go_upto_region 1 with (fail)
    clear h2 h3 h0
    go_wp2
    go_loopw [4] (fun v4 W => ∃ (k : Nat) (L2 : Nat → Sl), k ≤ s.pend.length ∧ v4 = .int .i64 k ∧ Aside0 (Many base L2 N W) ∧ Aside0 (DiskR L2 i g { s with safe := done s.safe (keptW ks (s.pend.take k) 0) }) ∧ Aside0 (Else3 L L2 i) ∧ Aside0 (Below base w W)) (fun v4 _ => s.pend.length - (intOf v4).toNat)
    case atStart => exact ⟨0, L, Nat.zero_le _, rfl, HM, HD, ⟨fun _ _ => rfl⟩, ⟨below_refl_at w base⟩⟩
    case round =>
      obtain ⟨k, L2, hk, rfl, M2, D2, E2, B2⟩ := hrel
      by_cases hlt : k < s.pend.length
      · have q1 : ((k : Int) < (s.pend.length : Int)) = True := eq_true (by omega)
        have q2 : (k < s.pend.length) = True := eq_true hlt
        have q3 : (s.pend.length ≤ k) = False := eq_false (by omega)
        obtain ⟨p, hpk⟩ : ∃ p, s.pend[k]? = some p := ⟨_, List.getElem?_eq_getElem hlt⟩
        obtain ⟨hp0, hp1⟩ := HOK.out p (List.mem_of_getElem? hpk)
        obtain ⟨pn, x⟩ := p
        obtain ⟨n, rfl⟩ : ∃ n : Nat, pn = n := ⟨pn.toNat, by omega⟩
        obtain ⟨l, hl⟩ : ∃ l, l = done s.safe (keptW ks (s.pend.take k) 0) := ⟨_, rfl⟩
        have hll : l.length = s.safe.length := by rw [hl, done_len]
        have hkt : (s.pend.take k).length = k := by rw [List.length_take]; omega
        have HNX : Aside0 (done s.safe (keptW ks (s.pend.take (k + 1)) 0) = if (k : Int) ∈ ks then l.set n x else l) := ⟨by
          rw [take_snoc _ _ _ hpk, keptW_snoc, hkt, Nat.zero_add]
          split
          · rw [done_snoc, ← hl]; rfl
          · rw [List.append_nil, hl]⟩
        rw [← hl] at D2
        have hns : n < l.length := by rw [hll]; omega
        have HPK := Aside0.mk hpk
        obtain ⟨_, ⟨Ap, cp, k2, _, _⟩, _⟩ := diskr_cells M2.out D2.out hi
        clear hl hkt hpk hp0 hp1 hll
        go_upto_region 4 with (fail)
        clear k2
        go_wp2
        go_loopw [5] (fun v5 W => ∃ (j : Nat) (L3 : Nat → Sl), j ≤ ks.length ∧ v5 = .int .i64 j ∧ Aside0 (Many base L3 N W) ∧ Aside0 (DiskR L3 i g { s with safe := if (k : Int) ∈ ks.take j then l.set n x else l }) ∧ Aside0 (Else3 L L3 i) ∧ Aside0 (Below base w W)) (fun v5 _ => ks.length - (intOf v5).toNat)
        case atStart => exact ⟨0, L2, Nat.zero_le _, rfl, M2, ⟨by rw [List.take_zero, if_neg List.not_mem_nil]; exact D2.out⟩, E2, B2⟩
        case round =>
          clear M2 D2 E2 B2
          obtain ⟨j, L3, hj, rfl, M3, D3, E3, B3⟩ := hrel
          by_cases hlj : j < ks.length
          · have p1 : ((j : Int) < (ks.length : Int)) = True := eq_true (by omega)
            have p2 : (j < ks.length) = True := eq_true hlj
            have p3 : (ks.length ≤ j) = False := eq_false (by omega)
            obtain ⟨y, hy⟩ : ∃ y, ks[j]? = some y := ⟨_, List.getElem?_eq_getElem hlj⟩
            obtain ⟨ad, rfl, hc⟩ := ints_at (HK.out _ B3.out) j y hy
            have HTS := Aside0.mk (take_snoc ks j y hy)
            by_cases hyk : y = (k : Int)
            · subst hyk
              go_upto_region 8 with (fail)
              clear hc
              obtain ⟨l2, hl2⟩ : ∃ l2, l2 = if (k : Int) ∈ ks.take j then l.set n x else l := ⟨_, rfl⟩
              have hll2 : l2.length = l.length := by rw [hl2]; split; · rw [List.length_set]
                                                     · rfl
              have HS2 : Aside0 ((if (k : Int) ∈ ks.take (j + 1) then l.set n x else l) = l2.set n x) := ⟨by
                rw [HTS.out, if_pos (List.mem_append.2 (.inr (List.mem_singleton.2 rfl))), hl2]
                split
                · rw [List.set_set]
                · rfl⟩
              rw [← hl2] at D3
              have hns2 : n < l2.length := by rw [hll2]; exact hns
              clear hl2 hll2
              obtain ⟨gp, cp', e2, hc0, hc1⟩ := row_pend M3.out (by omega) D3.out.2.2 k _ HPK.out
              obtain ⟨⟨As, cs0, k1, hv1, _⟩, ⟨Ap, cp, k2, hvp, _⟩, _⟩ := diskr_cells M3.out D3.out hi
              obtain ⟨gs, cs, hvs, _, _, hbs⟩ := row_text M3.out (t := i + 1) (by omega) D3.out.2.1 n hns2
              have hsafe := D3.out.2.1
              replace hv1 : (L3 (i + 1)).v = .slice As l2.length cs0 := hv1
              obtain ⟨rfl, rfl⟩ : As = some ⟨gs, 0, none⟩ ∧ cs0 = cs := by rw [hv1] at hvs; injection hvs with a b c; exact ⟨a, c⟩
              obtain ⟨rfl, rfl⟩ : Ap = some ⟨gp, 0, none⟩ ∧ cp = cp' := by rw [hvp] at e2; injection e2 with a b c; exact ⟨a, c⟩
              replace k1 : _ = some (Value.slice (some ⟨gs, 0, none⟩) l2.length cs0) := k1
              replace k2 : _ = some (Value.slice (some ⟨gp, 0, none⟩) s.pend.length cp) := k2
              have K1 := Aside0.mk k1
              have K2 := Aside0.mk k2
              have K3 := Aside0.mk hc0
              have K4 := Aside0.mk hc1
              have r2 : (n < l2.length) = True := eq_true hns2
              have r3 : (l2.length ≤ n) = False := eq_false (by omega)
              have r4 : ((n : Int) < (l2.length : Int)) = True := eq_true (by omega)
              clear k1 k2 hc0 hc1 hv1 hvp e2
              refine start_ (n := 22) (S := fun W => Below wr.heap.size wr W) (ds := [21]) #[false, false, false, false, false, false, false, false, false, false, false, false, false, false, false, false, false, false, false, false, false, false] (by kernel_rfl) rfl rfl (below_drew1 (Below.refl _ _)) (fun hHeld => ?_); refine with_tabW drc.tab8 drc.bits8 (fun HT_ HW_ => ?_)
              generalize World.drew _ = wR at hHeld ⊢
              refine pure_ (i := 0) (N := some 38) (v := ?_) (a' := ?_) #[true, false, false, false, false, false, false, false, false, false, false, false, false, false, false, false, false, false, false, false, false, false] rfl rfl (any_of HT_.out (by kernel_rfl)) (fun _ _ _ h => h) (Or.inl ⟨by rfl, ?_⟩) ?_ ?_
              rotate_left
              · intro w'
                go_simp
                with_reducible rfl
              rotate_left
              · simp only [Act.put, List.setIfInBounds_toArray, List.set_cons_zero, List.set_cons_succ, i64_w, i32_w]
                rfl
              refine pure_ (i := 1) (N := some 39) (v := ?_) (a' := ?_) #[true, true, false, false, false, false, false, false, false, false, false, false, false, false, false, false, false, false, false, false, false, false] rfl rfl (any_of HT_.out (by kernel_rfl)) (fun _ _ _ h => h) (Or.inl ⟨by rfl, ?_⟩) ?_ ?_
              rotate_left
              · intro w'
                go_simp
                with_reducible rfl
              rotate_left
              · simp only [Act.put, List.setIfInBounds_toArray, List.set_cons_zero, List.set_cons_succ, i64_w, i32_w]
                rfl
              refine pure_ (i := 2) (N := some 40) (v := ?_) (a' := ?_) #[true, true, true, false, false, false, false, false, false, false, false, false, false, false, false, false, false, false, false, false, false, false] rfl rfl (any_of HT_.out (by kernel_rfl)) (fun _ _ _ h => h) (Or.inl ⟨by rfl, ?_⟩) ?_ ?_
              rotate_left
              · intro w'
                go_simp
                with_reducible rfl
              rotate_left
              · simp only [Act.put, List.setIfInBounds_toArray, List.set_cons_zero, List.set_cons_succ, i64_w, i32_w]
                rfl
              refine take_ (i := 3) (N := some 41) (v := ?_) (a' := ?_) #[true, true, true, true, false, false, false, false, false, false, false, false, false, false, false, false, false, false, false, false, false, false] rfl rfl (take_ofW HT_.out HW_.out (by kernel_rfl)) (fun _ _ _ h => h) (Or.inl ⟨by rfl, ?_⟩) hHeld ?_ ?_
              rotate_left
              · rintro w' s0
                have hK := below_cell' s0 K1.out
                go_simp
                with_reducible rfl
              rotate_left
              · simp only [Act.put, List.setIfInBounds_toArray, List.set_cons_zero, List.set_cons_succ, i64_w, i32_w]
                rfl
              refine pure_ (i := 4) (N := some 42) (v := ?_) (a' := ?_) #[true, true, true, true, true, false, false, false, false, false, false, false, false, false, false, false, false, false, false, false, false, false] rfl rfl (any_of HT_.out (by kernel_rfl)) (fun _ _ _ h => h) (Or.inl ⟨by rfl, ?_⟩) ?_ ?_
              rotate_left
              · intro w'
                go_simp
                with_reducible rfl
              rotate_left
              · simp only [Act.put, List.setIfInBounds_toArray, List.set_cons_zero, List.set_cons_succ, i64_w, i32_w]
                rfl
              refine pure_ (i := 5) (N := some 43) (v := ?_) (a' := ?_) #[true, true, true, true, true, true, false, false, false, false, false, false, false, false, false, false, false, false, false, false, false, false] rfl rfl (any_of HT_.out (by kernel_rfl)) (fun _ _ _ h => h) (Or.inl ⟨by rfl, ?_⟩) ?_ ?_
              rotate_left
              · intro w'
                go_simp
                with_reducible rfl
              rotate_left
              · simp only [Act.put, List.setIfInBounds_toArray, List.set_cons_zero, List.set_cons_succ, i64_w, i32_w]
                rfl
              refine pure_ (i := 6) (N := some 44) (v := ?_) (a' := ?_) #[true, true, true, true, true, true, true, false, false, false, false, false, false, false, false, false, false, false, false, false, false, false] rfl rfl (any_of HT_.out (by kernel_rfl)) (fun _ _ _ h => h) (Or.inl ⟨by rfl, ?_⟩) ?_ ?_
              rotate_left
              · intro w'
                go_simp
                with_reducible rfl
              rotate_left
              · simp only [Act.put, List.setIfInBounds_toArray, List.set_cons_zero, List.set_cons_succ, i64_w, i32_w]
                rfl
              refine take_ (i := 7) (N := some 45) (v := ?_) (a' := ?_) #[true, true, true, true, true, true, true, true, false, false, false, false, false, false, false, false, false, false, false, false, false, false] rfl rfl (take_ofW HT_.out HW_.out (by kernel_rfl)) (fun _ _ _ h => h) (Or.inl ⟨by rfl, ?_⟩) hHeld ?_ ?_
              rotate_left
              · rintro w' s0
                have hK := below_cell' s0 K2.out
                go_simp
                with_reducible rfl
              rotate_left
              · simp only [Act.put, List.setIfInBounds_toArray, List.set_cons_zero, List.set_cons_succ, i64_w, i32_w]
                rfl
              refine pure_ (i := 8) (N := some 46) (v := ?_) (a' := ?_) #[true, true, true, true, true, true, true, true, true, false, false, false, false, false, false, false, false, false, false, false, false, false] rfl rfl (any_of HT_.out (by kernel_rfl)) (fun _ _ _ h => h) (Or.inl ⟨by rfl, ?_⟩) ?_ ?_
              rotate_left
              · intro w'
                go_simp
                with_reducible rfl
              rotate_left
              · simp only [Act.put, List.setIfInBounds_toArray, List.set_cons_zero, List.set_cons_succ, i64_w, i32_w]
                rfl
              refine pure_ (i := 9) (N := some 47) (v := ?_) (a' := ?_) #[true, true, true, true, true, true, true, true, true, true, false, false, false, false, false, false, false, false, false, false, false, false] rfl rfl (any_of HT_.out (by kernel_rfl)) (fun _ _ _ h => h) (Or.inl ⟨by rfl, ?_⟩) ?_ ?_
              rotate_left
              · intro w'
                go_simp
                with_reducible rfl
              rotate_left
              · simp only [Act.put, List.setIfInBounds_toArray, List.set_cons_zero, List.set_cons_succ, i64_w, i32_w]
                rfl
              refine pure_ (i := 10) (N := some 48) (v := ?_) (a' := ?_) #[true, true, true, true, true, true, true, true, true, true, true, false, false, false, false, false, false, false, false, false, false, false] rfl rfl (any_of HT_.out (by kernel_rfl)) (fun _ _ _ h => h) (Or.inl ⟨by rfl, ?_⟩) ?_ ?_
              rotate_left
              · intro w'
                go_simp
                with_reducible rfl
              rotate_left
              · simp only [Act.put, List.setIfInBounds_toArray, List.set_cons_zero, List.set_cons_succ, i64_w, i32_w]
                rfl
              refine take_ (i := 11) (N := some 49) (v := ?_) (a' := ?_) #[true, true, true, true, true, true, true, true, true, true, true, true, false, false, false, false, false, false, false, false, false, false] rfl rfl (take_ofW HT_.out HW_.out (by kernel_rfl)) (fun _ _ _ h => h) (Or.inl ⟨by rfl, ?_⟩) hHeld ?_ ?_
              rotate_left
              · rintro w' s0
                have hK := below_cell' s0 K3.out
                go_simp
                with_reducible rfl
              rotate_left
              · simp only [Act.put, List.setIfInBounds_toArray, List.set_cons_zero, List.set_cons_succ, i64_w, i32_w]
                rfl
              refine pure_ (i := 12) (N := some 50) (v := ?_) (a' := ?_) #[true, true, true, true, true, true, true, true, true, true, true, true, true, false, false, false, false, false, false, false, false, false] rfl rfl (any_of HT_.out (by kernel_rfl)) (fun _ _ _ h => h) (Or.inl ⟨by rfl, ?_⟩) ?_ ?_
              rotate_left
              · intro w'
                go_simp
                with_reducible rfl
              rotate_left
              · simp only [Act.put, List.setIfInBounds_toArray, List.set_cons_zero, List.set_cons_succ, i64_w, i32_w]
                rfl
              refine pure_ (i := 13) (N := some 51) (v := ?_) (a' := ?_) #[true, true, true, true, true, true, true, true, true, true, true, true, true, true, false, false, false, false, false, false, false, false] rfl rfl (any_of HT_.out (by kernel_rfl)) (fun _ _ _ h => h) (Or.inl ⟨by rfl, ?_⟩) ?_ ?_
              rotate_left
              · intro w'
                go_simp
                with_reducible rfl
              rotate_left
              · simp only [Act.put, List.setIfInBounds_toArray, List.set_cons_zero, List.set_cons_succ, i64_w, i32_w]
                rfl
              refine pure_ (i := 14) (N := some 52) (v := ?_) (a' := ?_) #[true, true, true, true, true, true, true, true, true, true, true, true, true, true, true, false, false, false, false, false, false, false] rfl rfl (any_of HT_.out (by kernel_rfl)) (fun _ _ _ h => h) (Or.inl ⟨by rfl, ?_⟩) ?_ ?_
              rotate_left
              · intro w'
                go_simp
                with_reducible rfl
              rotate_left
              · simp only [Act.put, List.setIfInBounds_toArray, List.set_cons_zero, List.set_cons_succ, i64_w, i32_w]
                rfl
              refine take_ (i := 15) (N := some 53) (v := ?_) (a' := ?_) #[true, true, true, true, true, true, true, true, true, true, true, true, true, true, true, true, false, false, false, false, false, false] rfl rfl (take_ofW HT_.out HW_.out (by kernel_rfl)) (fun _ _ _ h => h) (Or.inl ⟨by rfl, ?_⟩) hHeld ?_ ?_
              rotate_left
              · rintro w' s0
                have hK := below_cell' s0 K2.out
                go_simp
                with_reducible rfl
              rotate_left
              · simp only [Act.put, List.setIfInBounds_toArray, List.set_cons_zero, List.set_cons_succ, i64_w, i32_w]
                rfl
              refine pure_ (i := 16) (N := some 54) (v := ?_) (a' := ?_) #[true, true, true, true, true, true, true, true, true, true, true, true, true, true, true, true, true, false, false, false, false, false] rfl rfl (any_of HT_.out (by kernel_rfl)) (fun _ _ _ h => h) (Or.inl ⟨by rfl, ?_⟩) ?_ ?_
              rotate_left
              · intro w'
                go_simp
                with_reducible rfl
              rotate_left
              · simp only [Act.put, List.setIfInBounds_toArray, List.set_cons_zero, List.set_cons_succ, i64_w, i32_w]
                rfl
              refine pure_ (i := 17) (N := some 55) (v := ?_) (a' := ?_) #[true, true, true, true, true, true, true, true, true, true, true, true, true, true, true, true, true, true, false, false, false, false] rfl rfl (any_of HT_.out (by kernel_rfl)) (fun _ _ _ h => h) (Or.inl ⟨by rfl, ?_⟩) ?_ ?_
              rotate_left
              · intro w'
                go_simp
                with_reducible rfl
              rotate_left
              · simp only [Act.put, List.setIfInBounds_toArray, List.set_cons_zero, List.set_cons_succ, i64_w, i32_w]
                rfl
              refine pure_ (i := 18) (N := some 56) (v := ?_) (a' := ?_) #[true, true, true, true, true, true, true, true, true, true, true, true, true, true, true, true, true, true, true, false, false, false] rfl rfl (any_of HT_.out (by kernel_rfl)) (fun _ _ _ h => h) (Or.inl ⟨by rfl, ?_⟩) ?_ ?_
              rotate_left
              · intro w'
                go_simp
                with_reducible rfl
              rotate_left
              · simp only [Act.put, List.setIfInBounds_toArray, List.set_cons_zero, List.set_cons_succ, i64_w, i32_w]
                rfl
              refine take_ (i := 19) (N := some 57) (v := ?_) (a' := ?_) #[true, true, true, true, true, true, true, true, true, true, true, true, true, true, true, true, true, true, true, true, false, false] rfl rfl (take_ofW HT_.out HW_.out (by kernel_rfl)) (fun _ _ _ h => h) (Or.inl ⟨by rfl, ?_⟩) hHeld ?_ ?_
              rotate_left
              · rintro w' s0
                have hK := below_cell' s0 K4.out
                go_simp
                with_reducible rfl
              rotate_left
              · simp only [Act.put, List.setIfInBounds_toArray, List.set_cons_zero, List.set_cons_succ, i64_w, i32_w]
                rfl
              refine pure_ (i := 20) (N := some 58) (v := ?_) (a' := ?_) #[true, true, true, true, true, true, true, true, true, true, true, true, true, true, true, true, true, true, true, true, true, false] rfl rfl (any_of HT_.out (by kernel_rfl)) (fun _ _ _ h => h) (Or.inl ⟨by rfl, ?_⟩) ?_ ?_
              rotate_left
              · intro w'
                go_simp
                with_reducible rfl
              rotate_left
              · simp only [Act.put, List.setIfInBounds_toArray, List.set_cons_zero, List.set_cons_succ, i64_w, i32_w]
                rfl
              have HMR := many_below M3.out hHeld
              obtain ⟨cur, hcu, hfit⟩ := row_blk HMR (t := i + 1) (by omega) hsafe gs _ hvs n hns2
              refine last_ (i := 21) (N := none) #[true, true, true, true, true, true, true, true, true, true, true, true, true, true, true, true, true, true, true, true, true, true] rfl rfl (one_of HT_.out (by kernel_rfl)) (by decide) (fun K hK => ?_)
              refine wp_store_cell info9s (.tmp 58) (.tmp 57) rfl gs n cur 9 (.string x) rfl rfl hcu hfit rfl ?_
              refine hK.out _ _ ?_
              clear hK K
              refine norm_ (a' := ?_) ?_ ?_
              rotate_left
              · show Act.put _ (none) _ = _
                simp only [Act.put]
                rfl
              refine done_ (done_of HT_.out (by kernel_rfl)) ?_
              have M6 := Aside0.mk (text_set HMR (i + 1) (by omega) gs _ l2 hsafe hvs n x)
              obtain ⟨D6a, E6a⟩ := diskr_safe D3.out (l2.set n x)
              have D6 := Aside0.mk D6a
              have E6 := Aside0.mk (else3_trans E3.out E6a)
              have B6 := Aside0.mk ((below_then B3.out (Nat.le_trans HBS.out B3.out.size) hHeld).setCell (p := ⟨gs, n, none⟩) (by exact hbs) (.string x))
              clear HMR D6a E6a hcu hHeld K1 K2 K3 K4
              go_wp2
              exact ⟨⟨j + 1, _, by omega, by go_num, M6, ⟨by rw [HS2.out]; exact D6.out⟩, E6, B6⟩, by simp [intOf]; omega⟩
            · have p4 : (y = (k : Int)) = False := eq_false hyk
              have p5 : (y == (k : Int)) = false := by simp [hyk]
              have hmm : ((k : Int) ∈ ks.take (j + 1)) ↔ ((k : Int) ∈ ks.take j) := by
                rw [HTS.out, List.mem_append, List.mem_singleton]
                exact ⟨fun hh => hh.resolve_right (fun e => hyk e.symm), .inl⟩
              have D6 : Aside0 (DiskR L3 i g { s with safe := if (k : Int) ∈ ks.take (j + 1) then l.set n x else l }) := ⟨by
                have := D3.out
                by_cases hm : (k : Int) ∈ ks.take j
                · rw [if_pos hm] at this; rw [if_pos (hmm.2 hm)]; exact this
                · rw [if_neg hm] at this; rw [if_neg (fun hh => hm (hmm.1 hh))]; exact this⟩
              clear hmm HTS
              go_wp2
              exact ⟨⟨j + 1, L3, by omega, by go_num, M3, D6, E3, B3⟩, by simp [intOf]; omega⟩
          · have p1 : ((j : Int) < (ks.length : Int)) = False := eq_false (by omega)
            obtain rfl : j = ks.length := by omega
            rw [List.take_length] at D3
            go_wp2
            exact ⟨⟨k + 1, L3, by omega, by go_num, M3, ⟨by rw [HNX.out]; exact D3.out⟩, E3, B3⟩, by simp [intOf]; omega⟩
      · have q1 : ((k : Int) < (s.pend.length : Int)) = False := eq_false (by omega)
        obtain rfl : k = s.pend.length := by omega
        rw [List.take_length] at D2
        obtain ⟨l, hl⟩ : ∃ l, l = done s.safe (keptW ks s.pend 0) := ⟨_, rfl⟩
        rw [← hl] at D2 E
        clear hl
        obtain ⟨_, ⟨Aq, cq, y1, _, _⟩, y2, y3, y4, hbg, hfz⟩ := diskr_cells M2.out D2.out hi
        replace y1 : _ = some (Value.slice Aq s.pend.length cq) := y1
        have z1 := hfz 1 (by decide)
        have z2 := hfz 2 (by decide)
        have z3 := hfz 3 (by decide)
        have z4 := hfz 4 (by decide)
        clear hfz
        have M3 := many_nil M2.out (i + 2) (by omega) (wsl 89 (.slice none 0 0) []) (World.ownsRow_nil _ base 89 2) rfl
        have M4 := obj_set M3 i (by omega) g 75 _ (by rw [upd_ne (by omega)]; exact D2.out.1) 1 (.slice none 0 0)
        obtain ⟨D4, E4⟩ := diskr_pend D2.out (.slice none 0 0) []
        obtain ⟨La, ma, da, ea⟩ := diskr_set M4 D4 hi 2 (.bool true) { seen := l, safe := l, pend := [], fall := s.fall, off := true, opn := s.opn } ⟨rfl, rfl⟩ (fun _ _ => rfl)
        obtain ⟨Lb, mb, db, eb⟩ := diskr_set ma da hi 3 (.bool false) { seen := l, safe := l, pend := [], fall := s.fall, off := true, opn := false } ⟨rfl, rfl⟩ (fun _ _ => rfl)
        obtain ⟨Lc, mc, dc, ec⟩ := diskr_set mb db hi 4 (.int .i64 0) { seen := l, safe := l, pend := [], fall := 0, off := true, opn := false } ⟨rfl, rfl⟩ (fun _ _ => rfl)
        have MC := Aside0.mk mc
        have DC := Aside0.mk dc
        have EC := Aside0.mk (else3_trans (else3_trans (else3_trans (else3_trans E2.out E4) ea) eb) ec)
        clear M3 M4 D4 E4 ma da ea mb db eb mc dc ec
        go_wp2
        go_end0
        exact ⟨rfl, Lc, MC.out, by rw [E.out]; exact DC.out, EC.out, (((B2.out.setCell (by exact hbg) _).setCell (by exact hbg) _).setCell (by exact hbg) _).setCell (by exact hbg) _⟩
  · rw [h0] at h2
    rw [h1] at h3
    go_upto_region 1 with (fail)
    clear h2 h3 h0 h1
    go_wp2
    go_loopw [4] (fun v4 W => ∃ (k : Nat) (L2 : Nat → Sl), k ≤ s.pend.length ∧ v4 = .int .i64 k ∧ Aside0 (Many base L2 N W) ∧ Aside0 (DiskR L2 i g { s with safe := done s.safe (keptW ks (s.pend.take k) 0) }) ∧ Aside0 (Else3 L L2 i) ∧ Aside0 (Below base w W)) (fun v4 _ => s.pend.length - (intOf v4).toNat)
    case atStart => exact ⟨0, L, Nat.zero_le _, rfl, HM, HD, ⟨fun _ _ => rfl⟩, ⟨below_refl_at w base⟩⟩
    case round =>
      obtain ⟨k, L2, hk, rfl, M2, D2, E2, B2⟩ := hrel
      by_cases hlt : k < s.pend.length
      · have q1 : ((k : Int) < (s.pend.length : Int)) = True := eq_true (by omega)
        have q2 : (k < s.pend.length) = True := eq_true hlt
        have q3 : (s.pend.length ≤ k) = False := eq_false (by omega)
        obtain ⟨p, hpk⟩ : ∃ p, s.pend[k]? = some p := ⟨_, List.getElem?_eq_getElem hlt⟩
        obtain ⟨hp0, hp1⟩ := HOK.out p (List.mem_of_getElem? hpk)
        obtain ⟨pn, x⟩ := p
        obtain ⟨n, rfl⟩ : ∃ n : Nat, pn = n := ⟨pn.toNat, by omega⟩
        obtain ⟨l, hl⟩ : ∃ l, l = done s.safe (keptW ks (s.pend.take k) 0) := ⟨_, rfl⟩
        have hll : l.length = s.safe.length := by rw [hl, done_len]
        have hkt : (s.pend.take k).length = k := by rw [List.length_take]; omega
        have HNX : Aside0 (done s.safe (keptW ks (s.pend.take (k + 1)) 0) = if (k : Int) ∈ ks then l.set n x else l) := ⟨by
          rw [take_snoc _ _ _ hpk, keptW_snoc, hkt, Nat.zero_add]
          split
          · rw [done_snoc, ← hl]; rfl
          · rw [List.append_nil, hl]⟩
        rw [← hl] at D2
        have hns : n < l.length := by rw [hll]; omega
        have HPK := Aside0.mk hpk
        obtain ⟨_, ⟨Ap, cp, k2, _, _⟩, _⟩ := diskr_cells M2.out D2.out hi
        clear hl hkt hpk hp0 hp1 hll
        go_upto_region 4 with (fail)
        clear k2
        go_wp2
        go_loopw [5] (fun v5 W => ∃ (j : Nat) (L3 : Nat → Sl), j ≤ ks.length ∧ v5 = .int .i64 j ∧ Aside0 (Many base L3 N W) ∧ Aside0 (DiskR L3 i g { s with safe := if (k : Int) ∈ ks.take j then l.set n x else l }) ∧ Aside0 (Else3 L L3 i) ∧ Aside0 (Below base w W)) (fun v5 _ => ks.length - (intOf v5).toNat)
        case atStart => exact ⟨0, L2, Nat.zero_le _, rfl, M2, ⟨by rw [List.take_zero, if_neg List.not_mem_nil]; exact D2.out⟩, E2, B2⟩
        case round =>
          clear M2 D2 E2 B2
          obtain ⟨j, L3, hj, rfl, M3, D3, E3, B3⟩ := hrel
          by_cases hlj : j < ks.length
          · have p1 : ((j : Int) < (ks.length : Int)) = True := eq_true (by omega)
            have p2 : (j < ks.length) = True := eq_true hlj
            have p3 : (ks.length ≤ j) = False := eq_false (by omega)
            obtain ⟨y, hy⟩ : ∃ y, ks[j]? = some y := ⟨_, List.getElem?_eq_getElem hlj⟩
            obtain ⟨ad, rfl, hc⟩ := ints_at (HK.out _ B3.out) j y hy
            have HTS := Aside0.mk (take_snoc ks j y hy)
            by_cases hyk : y = (k : Int)
            · subst hyk
              go_upto_region 8 with (fail)
              clear hc
              obtain ⟨l2, hl2⟩ : ∃ l2, l2 = if (k : Int) ∈ ks.take j then l.set n x else l := ⟨_, rfl⟩
              have hll2 : l2.length = l.length := by rw [hl2]; split; · rw [List.length_set]
                                                     · rfl
              have HS2 : Aside0 ((if (k : Int) ∈ ks.take (j + 1) then l.set n x else l) = l2.set n x) := ⟨by
                rw [HTS.out, if_pos (List.mem_append.2 (.inr (List.mem_singleton.2 rfl))), hl2]
                split
                · rw [List.set_set]
                · rfl⟩
              rw [← hl2] at D3
              have hns2 : n < l2.length := by rw [hll2]; exact hns
              clear hl2 hll2
              obtain ⟨gp, cp', e2, hc0, hc1⟩ := row_pend M3.out (by omega) D3.out.2.2 k _ HPK.out
              obtain ⟨⟨As, cs0, k1, hv1, _⟩, ⟨Ap, cp, k2, hvp, _⟩, _⟩ := diskr_cells M3.out D3.out hi
              obtain ⟨gs, cs, hvs, _, _, hbs⟩ := row_text M3.out (t := i + 1) (by omega) D3.out.2.1 n hns2
              have hsafe := D3.out.2.1
              replace hv1 : (L3 (i + 1)).v = .slice As l2.length cs0 := hv1
              obtain ⟨rfl, rfl⟩ : As = some ⟨gs, 0, none⟩ ∧ cs0 = cs := by rw [hv1] at hvs; injection hvs with a b c; exact ⟨a, c⟩
              obtain ⟨rfl, rfl⟩ : Ap = some ⟨gp, 0, none⟩ ∧ cp = cp' := by rw [hvp] at e2; injection e2 with a b c; exact ⟨a, c⟩
              replace k1 : _ = some (Value.slice (some ⟨gs, 0, none⟩) l2.length cs0) := k1
              replace k2 : _ = some (Value.slice (some ⟨gp, 0, none⟩) s.pend.length cp) := k2
              have K1 := Aside0.mk k1
              have K2 := Aside0.mk k2
              have K3 := Aside0.mk hc0
              have K4 := Aside0.mk hc1
              have r2 : (n < l2.length) = True := eq_true hns2
              have r3 : (l2.length ≤ n) = False := eq_false (by omega)
              have r4 : ((n : Int) < (l2.length : Int)) = True := eq_true (by omega)
              clear k1 k2 hc0 hc1 hv1 hvp e2
              refine start_ (n := 22) (S := fun W => Below wr.heap.size wr W) (ds := [21]) #[false, false, false, false, false, false, false, false, false, false, false, false, false, false, false, false, false, false, false, false, false, false] (by kernel_rfl) rfl rfl (below_drew1 (Below.refl _ _)) (fun hHeld => ?_); refine with_tabW drc.tab8 drc.bits8 (fun HT_ HW_ => ?_)
              generalize World.drew _ = wR at hHeld ⊢
              refine pure_ (i := 0) (N := some 38) (v := ?_) (a' := ?_) #[true, false, false, false, false, false, false, false, false, false, false, false, false, false, false, false, false, false, false, false, false, false] rfl rfl (any_of HT_.out (by kernel_rfl)) (fun _ _ _ h => h) (Or.inl ⟨by rfl, ?_⟩) ?_ ?_
              rotate_left
              · intro w'
                go_simp
                with_reducible rfl
              rotate_left
              · simp only [Act.put, List.setIfInBounds_toArray, List.set_cons_zero, List.set_cons_succ, i64_w, i32_w]
                rfl
              refine pure_ (i := 1) (N := some 39) (v := ?_) (a' := ?_) #[true, true, false, false, false, false, false, false, false, false, false, false, false, false, false, false, false, false, false, false, false, false] rfl rfl (any_of HT_.out (by kernel_rfl)) (fun _ _ _ h => h) (Or.inl ⟨by rfl, ?_⟩) ?_ ?_
              rotate_left
              · intro w'
                go_simp
                with_reducible rfl
              rotate_left
              · simp only [Act.put, List.setIfInBounds_toArray, List.set_cons_zero, List.set_cons_succ, i64_w, i32_w]
                rfl
              refine pure_ (i := 2) (N := some 40) (v := ?_) (a' := ?_) #[true, true, true, false, false, false, false, false, false, false, false, false, false, false, false, false, false, false, false, false, false, false] rfl rfl (any_of HT_.out (by kernel_rfl)) (fun _ _ _ h => h) (Or.inl ⟨by rfl, ?_⟩) ?_ ?_
              rotate_left
              · intro w'
                go_simp
                with_reducible rfl
              rotate_left
              · simp only [Act.put, List.setIfInBounds_toArray, List.set_cons_zero, List.set_cons_succ, i64_w, i32_w]
                rfl
              refine take_ (i := 3) (N := some 41) (v := ?_) (a' := ?_) #[true, true, true, true, false, false, false, false, false, false, false, false, false, false, false, false, false, false, false, false, false, false] rfl rfl (take_ofW HT_.out HW_.out (by kernel_rfl)) (fun _ _ _ h => h) (Or.inl ⟨by rfl, ?_⟩) hHeld ?_ ?_
              rotate_left
              · rintro w' s0
                have hK := below_cell' s0 K1.out
                go_simp
                with_reducible rfl
              rotate_left
              · simp only [Act.put, List.setIfInBounds_toArray, List.set_cons_zero, List.set_cons_succ, i64_w, i32_w]
                rfl
              refine pure_ (i := 4) (N := some 42) (v := ?_) (a' := ?_) #[true, true, true, true, true, false, false, false, false, false, false, false, false, false, false, false, false, false, false, false, false, false] rfl rfl (any_of HT_.out (by kernel_rfl)) (fun _ _ _ h => h) (Or.inl ⟨by rfl, ?_⟩) ?_ ?_
              rotate_left
              · intro w'
                go_simp
                with_reducible rfl
              rotate_left
              · simp only [Act.put, List.setIfInBounds_toArray, List.set_cons_zero, List.set_cons_succ, i64_w, i32_w]
                rfl
              refine pure_ (i := 5) (N := some 43) (v := ?_) (a' := ?_) #[true, true, true, true, true, true, false, false, false, false, false, false, false, false, false, false, false, false, false, false, false, false] rfl rfl (any_of HT_.out (by kernel_rfl)) (fun _ _ _ h => h) (Or.inl ⟨by rfl, ?_⟩) ?_ ?_
              rotate_left
              · intro w'
                go_simp
                with_reducible rfl
              rotate_left
              · simp only [Act.put, List.setIfInBounds_toArray, List.set_cons_zero, List.set_cons_succ, i64_w, i32_w]
                rfl
              refine pure_ (i := 6) (N := some 44) (v := ?_) (a' := ?_) #[true, true, true, true, true, true, true, false, false, false, false, false, false, false, false, false, false, false, false, false, false, false] rfl rfl (any_of HT_.out (by kernel_rfl)) (fun _ _ _ h => h) (Or.inl ⟨by rfl, ?_⟩) ?_ ?_
              rotate_left
              · intro w'
                go_simp
                with_reducible rfl
              rotate_left
              · simp only [Act.put, List.setIfInBounds_toArray, List.set_cons_zero, List.set_cons_succ, i64_w, i32_w]
                rfl
              refine take_ (i := 7) (N := some 45) (v := ?_) (a' := ?_) #[true, true, true, true, true, true, true, true, false, false, false, false, false, false, false, false, false, false, false, false, false, false] rfl rfl (take_ofW HT_.out HW_.out (by kernel_rfl)) (fun _ _ _ h => h) (Or.inl ⟨by rfl, ?_⟩) hHeld ?_ ?_
              rotate_left
              · rintro w' s0
                have hK := below_cell' s0 K2.out
                go_simp
                with_reducible rfl
              rotate_left
              · simp only [Act.put, List.setIfInBounds_toArray, List.set_cons_zero, List.set_cons_succ, i64_w, i32_w]
                rfl
              refine pure_ (i := 8) (N := some 46) (v := ?_) (a' := ?_) #[true, true, true, true, true, true, true, true, true, false, false, false, false, false, false, false, false, false, false, false, false, false] rfl rfl (any_of HT_.out (by kernel_rfl)) (fun _ _ _ h => h) (Or.inl ⟨by rfl, ?_⟩) ?_ ?_
              rotate_left
              · intro w'
                go_simp
                with_reducible rfl
              rotate_left
              · simp only [Act.put, List.setIfInBounds_toArray, List.set_cons_zero, List.set_cons_succ, i64_w, i32_w]
                rfl
              refine pure_ (i := 9) (N := some 47) (v := ?_) (a' := ?_) #[true, true, true, true, true, true, true, true, true, true, false, false, false, false, false, false, false, false, false, false, false, false] rfl rfl (any_of HT_.out (by kernel_rfl)) (fun _ _ _ h => h) (Or.inl ⟨by rfl, ?_⟩) ?_ ?_
              rotate_left
              · intro w'
                go_simp
                with_reducible rfl
              rotate_left
              · simp only [Act.put, List.setIfInBounds_toArray, List.set_cons_zero, List.set_cons_succ, i64_w, i32_w]
                rfl
              refine pure_ (i := 10) (N := some 48) (v := ?_) (a' := ?_) #[true, true, true, true, true, true, true, true, true, true, true, false, false, false, false, false, false, false, false, false, false, false] rfl rfl (any_of HT_.out (by kernel_rfl)) (fun _ _ _ h => h) (Or.inl ⟨by rfl, ?_⟩) ?_ ?_
              rotate_left
              · intro w'
                go_simp
                with_reducible rfl
              rotate_left
              · simp only [Act.put, List.setIfInBounds_toArray, List.set_cons_zero, List.set_cons_succ, i64_w, i32_w]
                rfl
              refine take_ (i := 11) (N := some 49) (v := ?_) (a' := ?_) #[true, true, true, true, true, true, true, true, true, true, true, true, false, false, false, false, false, false, false, false, false, false] rfl rfl (take_ofW HT_.out HW_.out (by kernel_rfl)) (fun _ _ _ h => h) (Or.inl ⟨by rfl, ?_⟩) hHeld ?_ ?_
              rotate_left
              · rintro w' s0
                have hK := below_cell' s0 K3.out
                go_simp
                with_reducible rfl
              rotate_left
              · simp only [Act.put, List.setIfInBounds_toArray, List.set_cons_zero, List.set_cons_succ, i64_w, i32_w]
                rfl
              refine pure_ (i := 12) (N := some 50) (v := ?_) (a' := ?_) #[true, true, true, true, true, true, true, true, true, true, true, true, true, false, false, false, false, false, false, false, false, false] rfl rfl (any_of HT_.out (by kernel_rfl)) (fun _ _ _ h => h) (Or.inl ⟨by rfl, ?_⟩) ?_ ?_
              rotate_left
              · intro w'
                go_simp
                with_reducible rfl
              rotate_left
              · simp only [Act.put, List.setIfInBounds_toArray, List.set_cons_zero, List.set_cons_succ, i64_w, i32_w]
                rfl
              refine pure_ (i := 13) (N := some 51) (v := ?_) (a' := ?_) #[true, true, true, true, true, true, true, true, true, true, true, true, true, true, false, false, false, false, false, false, false, false] rfl rfl (any_of HT_.out (by kernel_rfl)) (fun _ _ _ h => h) (Or.inl ⟨by rfl, ?_⟩) ?_ ?_
              rotate_left
              · intro w'
                go_simp
                with_reducible rfl
              rotate_left
              · simp only [Act.put, List.setIfInBounds_toArray, List.set_cons_zero, List.set_cons_succ, i64_w, i32_w]
                rfl
              refine pure_ (i := 14) (N := some 52) (v := ?_) (a' := ?_) #[true, true, true, true, true, true, true, true, true, true, true, true, true, true, true, false, false, false, false, false, false, false] rfl rfl (any_of HT_.out (by kernel_rfl)) (fun _ _ _ h => h) (Or.inl ⟨by rfl, ?_⟩) ?_ ?_
              rotate_left
              · intro w'
                go_simp
                with_reducible rfl
              rotate_left
              · simp only [Act.put, List.setIfInBounds_toArray, List.set_cons_zero, List.set_cons_succ, i64_w, i32_w]
                rfl
              refine take_ (i := 15) (N := some 53) (v := ?_) (a' := ?_) #[true, true, true, true, true, true, true, true, true, true, true, true, true, true, true, true, false, false, false, false, false, false] rfl rfl (take_ofW HT_.out HW_.out (by kernel_rfl)) (fun _ _ _ h => h) (Or.inl ⟨by rfl, ?_⟩) hHeld ?_ ?_
              rotate_left
              · rintro w' s0
                have hK := below_cell' s0 K2.out
                go_simp
                with_reducible rfl
              rotate_left
              · simp only [Act.put, List.setIfInBounds_toArray, List.set_cons_zero, List.set_cons_succ, i64_w, i32_w]
                rfl
              refine pure_ (i := 16) (N := some 54) (v := ?_) (a' := ?_) #[true, true, true, true, true, true, true, true, true, true, true, true, true, true, true, true, true, false, false, false, false, false] rfl rfl (any_of HT_.out (by kernel_rfl)) (fun _ _ _ h => h) (Or.inl ⟨by rfl, ?_⟩) ?_ ?_
              rotate_left
              · intro w'
                go_simp
                with_reducible rfl
              rotate_left
              · simp only [Act.put, List.setIfInBounds_toArray, List.set_cons_zero, List.set_cons_succ, i64_w, i32_w]
                rfl
              refine pure_ (i := 17) (N := some 55) (v := ?_) (a' := ?_) #[true, true, true, true, true, true, true, true, true, true, true, true, true, true, true, true, true, true, false, false, false, false] rfl rfl (any_of HT_.out (by kernel_rfl)) (fun _ _ _ h => h) (Or.inl ⟨by rfl, ?_⟩) ?_ ?_
              rotate_left
              · intro w'
                go_simp
                with_reducible rfl
              rotate_left
              · simp only [Act.put, List.setIfInBounds_toArray, List.set_cons_zero, List.set_cons_succ, i64_w, i32_w]
                rfl
              refine pure_ (i := 18) (N := some 56) (v := ?_) (a' := ?_) #[true, true, true, true, true, true, true, true, true, true, true, true, true, true, true, true, true, true, true, false, false, false] rfl rfl (any_of HT_.out (by kernel_rfl)) (fun _ _ _ h => h) (Or.inl ⟨by rfl, ?_⟩) ?_ ?_
              rotate_left
              · intro w'
                go_simp
                with_reducible rfl
              rotate_left
              · simp only [Act.put, List.setIfInBounds_toArray, List.set_cons_zero, List.set_cons_succ, i64_w, i32_w]
                rfl
              refine take_ (i := 19) (N := some 57) (v := ?_) (a' := ?_) #[true, true, true, true, true, true, true, true, true, true, true, true, true, true, true, true, true, true, true, true, false, false] rfl rfl (take_ofW HT_.out HW_.out (by kernel_rfl)) (fun _ _ _ h => h) (Or.inl ⟨by rfl, ?_⟩) hHeld ?_ ?_
              rotate_left
              · rintro w' s0
                have hK := below_cell' s0 K4.out
                go_simp
                with_reducible rfl
              rotate_left
              · simp only [Act.put, List.setIfInBounds_toArray, List.set_cons_zero, List.set_cons_succ, i64_w, i32_w]
                rfl
              refine pure_ (i := 20) (N := some 58) (v := ?_) (a' := ?_) #[true, true, true, true, true, true, true, true, true, true, true, true, true, true, true, true, true, true, true, true, true, false] rfl rfl (any_of HT_.out (by kernel_rfl)) (fun _ _ _ h => h) (Or.inl ⟨by rfl, ?_⟩) ?_ ?_
              rotate_left
              · intro w'
                go_simp
                with_reducible rfl
              rotate_left
              · simp only [Act.put, List.setIfInBounds_toArray, List.set_cons_zero, List.set_cons_succ, i64_w, i32_w]
                rfl
              have HMR := many_below M3.out hHeld
              obtain ⟨cur, hcu, hfit⟩ := row_blk HMR (t := i + 1) (by omega) hsafe gs _ hvs n hns2
              refine last_ (i := 21) (N := none) #[true, true, true, true, true, true, true, true, true, true, true, true, true, true, true, true, true, true, true, true, true, true] rfl rfl (one_of HT_.out (by kernel_rfl)) (by decide) (fun K hK => ?_)
              refine wp_store_cell info9s (.tmp 58) (.tmp 57) rfl gs n cur 9 (.string x) rfl rfl hcu hfit rfl ?_
              refine hK.out _ _ ?_
              clear hK K
              refine norm_ (a' := ?_) ?_ ?_
              rotate_left
              · show Act.put _ (none) _ = _
                simp only [Act.put]
                rfl
              refine done_ (done_of HT_.out (by kernel_rfl)) ?_
              have M6 := Aside0.mk (text_set HMR (i + 1) (by omega) gs _ l2 hsafe hvs n x)
              obtain ⟨D6a, E6a⟩ := diskr_safe D3.out (l2.set n x)
              have D6 := Aside0.mk D6a
              have E6 := Aside0.mk (else3_trans E3.out E6a)
              have B6 := Aside0.mk ((below_then B3.out (Nat.le_trans HBS.out B3.out.size) hHeld).setCell (p := ⟨gs, n, none⟩) (by exact hbs) (.string x))
              clear HMR D6a E6a hcu hHeld K1 K2 K3 K4
              go_wp2
              exact ⟨⟨j + 1, _, by omega, by go_num, M6, ⟨by rw [HS2.out]; exact D6.out⟩, E6, B6⟩, by simp [intOf]; omega⟩
            · have p4 : (y = (k : Int)) = False := eq_false hyk
              have p5 : (y == (k : Int)) = false := by simp [hyk]
              have hmm : ((k : Int) ∈ ks.take (j + 1)) ↔ ((k : Int) ∈ ks.take j) := by
                rw [HTS.out, List.mem_append, List.mem_singleton]
                exact ⟨fun hh => hh.resolve_right (fun e => hyk e.symm), .inl⟩
              have D6 : Aside0 (DiskR L3 i g { s with safe := if (k : Int) ∈ ks.take (j + 1) then l.set n x else l }) := ⟨by
                have := D3.out
                by_cases hm : (k : Int) ∈ ks.take j
                · rw [if_pos hm] at this; rw [if_pos (hmm.2 hm)]; exact this
                · rw [if_neg hm] at this; rw [if_neg (fun hh => hm (hmm.1 hh))]; exact this⟩
              clear hmm HTS
              go_wp2
              exact ⟨⟨j + 1, L3, by omega, by go_num, M3, D6, E3, B3⟩, by simp [intOf]; omega⟩
          · have p1 : ((j : Int) < (ks.length : Int)) = False := eq_false (by omega)
            obtain rfl : j = ks.length := by omega
            rw [List.take_length] at D3
            go_wp2
            exact ⟨⟨k + 1, L3, by omega, by go_num, M3, ⟨by rw [HNX.out]; exact D3.out⟩, E3, B3⟩, by simp [intOf]; omega⟩
      · have q1 : ((k : Int) < (s.pend.length : Int)) = False := eq_false (by omega)
        obtain rfl : k = s.pend.length := by omega
        rw [List.take_length] at D2
        obtain ⟨l, hl⟩ : ∃ l, l = done s.safe (keptW ks s.pend 0) := ⟨_, rfl⟩
        rw [← hl] at D2 E
        clear hl
        obtain ⟨_, ⟨Aq, cq, y1, _, _⟩, y2, y3, y4, hbg, hfz⟩ := diskr_cells M2.out D2.out hi
        replace y1 : _ = some (Value.slice Aq s.pend.length cq) := y1
        have z1 := hfz 1 (by decide)
        have z2 := hfz 2 (by decide)
        have z3 := hfz 3 (by decide)
        have z4 := hfz 4 (by decide)
        clear hfz
        have M3 := many_nil M2.out (i + 2) (by omega) (wsl 89 (.slice none 0 0) []) (World.ownsRow_nil _ base 89 2) rfl
        have M4 := obj_set M3 i (by omega) g 75 _ (by rw [upd_ne (by omega)]; exact D2.out.1) 1 (.slice none 0 0)
        obtain ⟨D4, E4⟩ := diskr_pend D2.out (.slice none 0 0) []
        obtain ⟨La, ma, da, ea⟩ := diskr_set M4 D4 hi 2 (.bool true) { seen := l, safe := l, pend := [], fall := s.fall, off := true, opn := s.opn } ⟨rfl, rfl⟩ (fun _ _ => rfl)
        obtain ⟨Lb, mb, db, eb⟩ := diskr_set ma da hi 3 (.bool false) { seen := l, safe := l, pend := [], fall := s.fall, off := true, opn := false } ⟨rfl, rfl⟩ (fun _ _ => rfl)
        obtain ⟨Lc, mc, dc, ec⟩ := diskr_set mb db hi 4 (.int .i64 0) { seen := l, safe := l, pend := [], fall := 0, off := true, opn := false } ⟨rfl, rfl⟩ (fun _ _ => rfl)
        have MC := Aside0.mk mc
        have DC := Aside0.mk dc
        have EC := Aside0.mk (else3_trans (else3_trans (else3_trans (else3_trans E2.out E4) ea) eb) ec)
        clear M3 M4 D4 E4 ma da ea mb db eb mc dc ec
        go_wp2
        go_end0
        exact ⟨rfl, Lc, MC.out, by rw [E.out]; exact DC.out, EC.out, (((B2.out.setCell (by exact hbg) _).setCell (by exact hbg) _).setCell (by exact hbg) _).setCell (by exact hbg) _⟩
set_option maxHeartbeats 8000000 in
set_option maxRecDepth 100000 in
theorem ron_calls {base : Nat} {L : Nat → Sl} {N i g : Nat} {s : DS} {w : World} (h : Many base L N w) (hd : DiskR L i g s) (hi : i + 3 ≤ N) (hbase : base ≤ w.heap.size) (hp : s.pend.length ≤ 549755813888) (hok : ∀ p ∈ s.pend, 0 ≤ p.1 ∧ p.1 < s.safe.length) :
    Calls Try.prog 39 #[.pointer (some ⟨g, 0, none⟩)] w fun e w' => e = .returned (.tuple #[]) ∧ ∃ L', Many base L' N w' ∧ DiskR L' i g (onS s) ∧ Else3 L L' i ∧ Below base w w' := by
  obtain ⟨_, _, h2, h3, _, hb, hfz⟩ := diskr_cells h hd hi
  have hz2 := hfz 2 (by decide)
  have HCR := rcrash_calls none 0 [] (fun W _ => C_nil W) (by decide) h hd hi hbase hp hok
  replace HCR : Calls Try.prog 38 #[.pointer (some ⟨g, 0, none⟩), .slice none 0 0] w (fun e w' => e = .returned (.tuple #[]) ∧ ∃ L', Many base L' N w' ∧ DiskR L' i g (crashS s []) ∧ Else3 L L' i ∧ Below base w w') := HCR
  have HM := Aside0.mk h
  have HD := Aside0.mk hd
  have HB := Aside0.mk hb
  clear h hd hfz hb
  go_enter Try.func39, Try.ntmps39
  cases ho : s.opn with
  | false =>
    rw [ho] at h3
    have E : Aside0 (onS s = { s with off := false }) := ⟨by unfold onS; rw [ho]; rfl⟩
    obtain ⟨L1, m1, d1, e1⟩ := diskr_set HM.out HD.out hi 2 (.bool false) { s with off := false } ⟨rfl, rfl⟩ (fun _ _ => rfl)
    have R : Aside0 (∃ L', Many base L' N (w.setCell ⟨g, 2, none⟩ (.bool false)) ∧ DiskR L' i g (onS s) ∧ Else3 L L' i ∧ Below base w (w.setCell ⟨g, 2, none⟩ (.bool false))) := ⟨L1, m1, by rw [E.out]; exact d1, e1, (below_refl_at w base).setCell (by exact HB.out) _⟩
    clear m1 d1 e1 HCR
    go_wp2
    go_end0
    exact ⟨rfl, R.out⟩
  | true =>
    rw [ho] at h3
    have E : Aside0 (onS s = { crashS s [] with off := false }) := ⟨by unfold onS; rw [ho]; rfl⟩
    go_upto_region 2 with (go_at_call 38; (with_reducible refine HCR.mono ?_); rintro e w1 ⟨rfl, L1, m1, d1, e1, b1⟩; have M1 := Aside0.mk m1; have D1 := Aside0.mk d1; have E1 := Aside0.mk e1; have B1 := Aside0.mk b1; clear m1 d1 e1 b1)
    clear HCR h2 h3 hz2
    obtain ⟨_, _, h2, h3, _, hb, hfz⟩ := diskr_cells M1.out D1.out hi
    have hz2 := hfz 2 (by decide)
    obtain ⟨L2, m2, d2, e2⟩ := diskr_set M1.out D1.out hi 2 (.bool false) { crashS s [] with off := false } ⟨rfl, rfl⟩ (fun _ _ => rfl)
    have R : Aside0 (∃ L', Many base L' N (w1.setCell ⟨g, 2, none⟩ (.bool false)) ∧ DiskR L' i g (onS s) ∧ Else3 L L' i ∧ Below base w (w1.setCell ⟨g, 2, none⟩ (.bool false))) := ⟨L2, m2, by rw [E.out]; exact d2, else3_trans E1.out e2, B1.out.setCell (by exact hb) _⟩
    clear m2 d2 e2 hfz hb
    go_wp2
    go_end0
    exact ⟨rfl, R.out⟩
end Go.Proofs.Ytebhmbdblifddaa.Dk
