/- Chapter 6: DiskSafe, walked. -/
import Derived.Test.YtebhmbdblifddaaDkM
namespace Go.Proofs.Ytebhmbdblifddaa.Dk
open Go.RowKit Go.Maps Go.Proofs.Ytebhmbdblifddaa.X Go.Proofs.YtebhmbdblifddaaW.PrintWords Go.Proofs.YtebhmbdblifddaaW.PrintLast Go.Proofs.YtebhmbdblifddaaW.PrintMore
set_option linter.unusedVariables false
set_option linter.unusedSimpArgs false

def dsf.T11 : Bool × List (List Nat × List Nat) := (true, [([], []), ([], []), ([], []), ([1, 2], [1, 2]), ([3], [3]), ([4], [4]), ([5], [5]), ([], []), ([], []), ([7, 8], [7, 8]), ([9], [9]), ([10], [10]), ([11, 6], [11]), ([0, 6, 12, 12], [0, 6, 12]), ([13], [13])])
def dsf.B11 : List Nat := [0, 0, 0, 6, 14, 30, 62, 0, 0, 384, 896, 1920, 4094, 8191, 16383]
theorem dsf.tab11 : rtab .any (opsOf Try.f5 11) = dsf.T11 := by kernel_rfl
theorem dsf.bits11 : waitsOk dsf.T11.2 dsf.B11 = true := by kernel_rfl
/-- On, no power to be lost, nothing to be done when it comes back. -/
structure SInv (s : DS) : Prop where
  off : s.off = false
  fall : s.fall = 0
  opn : s.opn = false
theorem sinv_fresh (n : Nat) : SInv (freshS n) := ⟨rfl, rfl, rfl⟩
theorem sinv_fall {s : DS} (h : SInv s) : fallS s = s := by
  unfold fallS
  rw [if_neg (by rw [h.fall]; decide)]
theorem sinv_write {s : DS} (h : SInv s) (m : Nat) (hm : m < s.seen.length) (x : ByteArray) (hx : x.size = 512) : SInv (writeS s m x).1 ∧ (writeS s m x).2 = 0 := by
  unfold writeS
  rw [if_neg (by rw [h.off]; decide), if_neg (fun hn => hn ⟨⟨by omega, by omega⟩, hx⟩), sinv_fall h, if_neg (by rw [h.off]; decide)]
  exact ⟨⟨h.off, h.fall, h.opn⟩, rfl⟩
theorem sinv_flush {s : DS} (h : SInv s) : SInv (flushS s).1 ∧ (flushS s).2 = 0 := by
  unfold flushS
  rw [if_neg (by rw [h.off]; decide), sinv_fall h, if_neg (by rw [h.off]; decide)]
  exact ⟨⟨h.off, h.fall, h.opn⟩, rfl⟩
theorem sinv_crash {s : DS} (h : SInv s) (ks : List Int) : (crashS s ks).off = true ∧ SInv (onS (crashS s ks)) := by
  unfold crashS
  rw [if_neg (by rw [h.off]; exact fun hh => by cases hh.1)]
  exact ⟨rfl, rfl, rfl, rfl⟩
theorem readS_in {s : DS} (h : s.off = false) (i : Nat) (hi : i < s.seen.length) : (readS s i).2 = 0 := by
  unfold readS
  rw [if_neg (by rw [h]; decide), if_pos ⟨by omega, by omega⟩]
/-- Another disk stays. -/
theorem at_pair {base : Nat} {L L' : Nat → Sl} {N i j g g' : Nat} {s s' : DS} {n n' m m' : Nat} {w0 w w' : World} (hc : At base L N j g' s' n' m' w0 w) (h : At base L' N i g s n m w0 w') (e : Else L L' i) (hij : j + 4 ≤ i ∨ i + 4 ≤ j) : At base L' N j g' s' n' m' w0 w' :=
  ⟨h.many, disk_else e hc.disk hij, hc.hi, hc.ok, h.bel, hc.hb, hc.hn, hc.hm⟩
section
variable {base : Nat} {L : Nat → Sl} {N i g : Nat} {s : DS} {n m : Nat} {w0 w : World}
theorem at_refuse (h : At base L N i g s n m w0 w) (ho : s.off = false) (k : Int) (x : ByteArray) (hb : ¬ ((0 ≤ k ∧ k < (n : Int)) ∧ x.size = 512)) (hm : m + 1 ≤ 549755813887) :
    Calls Try.prog 11 #[.pointer (some ⟨g, 0, none⟩), .int .i64 k, .string x] w fun e w' => e = .returned (.int .i64 1) ∧ ∃ L', At base L' N i g s n (m + 1) w0 w' ∧ Else L L' i := by
  have := at_write h k x hm
  rw [write_arg ho k x (by rw [h.ok.seen]; exact hb)] at this
  exact this
theorem at_refuse_n (h : At base L N i g s n m w0 w) (ho : s.off = false) (k : Int) (x : ByteArray) (hb : ¬ (0 ≤ k ∧ k < (n : Int))) (hm : m + 1 ≤ 549755813887) :
    Calls Try.prog 11 #[.pointer (some ⟨g, 0, none⟩), .int .i64 k, .string x] w fun e w' => e = .returned (.int .i64 1) ∧ ∃ L', At base L' N i g s n (m + 1) w0 w' ∧ Else L L' i := at_refuse h ho k x (fun hh => hb hh.1) hm
theorem at_refuse_t (h : At base L N i g s n m w0 w) (ho : s.off = false) (k : Int) (x : ByteArray) (hb : x.size ≠ 512) (hm : m + 1 ≤ 549755813887) :
    Calls Try.prog 11 #[.pointer (some ⟨g, 0, none⟩), .int .i64 k, .string x] w fun e w' => e = .returned (.int .i64 1) ∧ ∃ L', At base L' N i g s n (m + 1) w0 w' ∧ Else L L' i := at_refuse h ho k x (fun hh => hb hh.2) hm
theorem at_write_off (h : At base L N i g s n m w0 w) (ho : s.off = true) (k : Int) (x : ByteArray) (hm : m + 1 ≤ 549755813887) :
    Calls Try.prog 11 #[.pointer (some ⟨g, 0, none⟩), .int .i64 k, .string x] w fun e w' => e = .returned (.int .i64 9) ∧ ∃ L', At base L' N i g s n (m + 1) w0 w' ∧ Else L L' i := by
  have := at_write h k x hm
  rw [show writeS s k x = (s, 9) by unfold writeS; rw [if_pos ho]] at this
  exact this
theorem at_flush_off (h : At base L N i g s n m w0 w) (ho : s.off = true) :
    Calls Try.prog 13 #[.pointer (some ⟨g, 0, none⟩)] w fun e w' => e = .returned (.int .i64 9) ∧ ∃ L', At base L' N i g s n m w0 w' ∧ Else L L' i := by
  have := at_flush h
  rw [show flushS s = (s, 9) by unfold flushS; rw [if_pos ho]] at this
  exact this
theorem read_refuse (h : At base L N i g s n m w0 w) (ho : s.off = false) (k : Int) (hb : ¬ (0 ≤ k ∧ k < (n : Int))) :
    Calls Try.prog 17 #[.pointer (some ⟨g, 0, none⟩), .int .i64 k] w fun e w' => e = .returned (.tuple #[.string ByteArray.empty, .int .i64 1]) ∧ w' = w := by
  have := read_off h k
  rw [show readS s k = (ByteArray.empty, 1) by unfold readS; rw [if_neg (by rw [ho]; decide), if_neg (by rw [h.ok.seen]; exact hb)]] at this
  exact this
theorem read_ok (h : At base L N i g s n m w0 w) (ho : s.off = false) (k : Nat) (hb : k < n) :
    Calls Try.prog 17 #[.pointer (some ⟨g, 0, none⟩), .int .i64 (k : Int)] w fun e w' => e = .returned (.tuple #[.string (readS s k).1, .int .i64 0]) ∧ w' = w := by
  have := read_off h (k : Int)
  rw [readS_in ho k (by rw [h.ok.seen]; exact hb)] at this
  exact this
end
set_option maxHeartbeats 16000000 in
set_option maxRecDepth 100000 in
theorem safe_walk (A : Option Addr) (c : Nat) (ps : List (Int × Int)) (f n : Int) (tx : ByteArray) (w : World) (hb : Kd.C kP w A ps.length ps) (hl : ps.length ≤ 1048576) (hx1 : ∀ p ∈ ps, 0 ≤ p.2 ∧ p.2 ≤ 255) (htx : tx.size ≤ 1048576) :
    Calls Try.prog 5 #[.slice A ps.length c, .int .i64 f, .int .i64 n, .string tx] w fun e w' => e = .returned (.bool true) ∧ Below w.heap.size w w' := by
  have HP := Aside0.mk hb
  have HX := Aside0.mk hx1
  have HTX := Aside0.mk htx
  clear hb hx1 htx
  have HMD : ∀ W : World, Calls Try.prog 9 #[.int .i64 4] W fun e w' => ∃ g L', e = .returned (.pointer (some ⟨g, 0, none⟩)) ∧ At W.heap.size L' 4 0 g (freshS 4) 4 0 W w' := fun W => made_calls (n := 4) W (by decide) (by decide)
  go_enter Try.func5, Try.ntmps5
  go_upto_region 7 with (first
    | (go_at_call 8; (with_reducible refine (head_calls _).mono ?_); rintro e w1 ⟨rfl, hb⟩; have n1 := Aside0.mk (Kd.C_below HP.out hb); have D0 := Aside0.mk hb; clear HP hb; have HP := n1; clear n1)
    | (go_at_call 9; (with_reducible refine (HMD _).mono ?_); rintro e w2 ⟨g, L2, rfl, h'⟩; have H := Aside0.mk h'; clear h'))
  have HS0 := Aside0.mk (sinv_fresh 4)
  clear HMD
  go_wp2
  go_loopw [10] (fun v10 W => ∃ (k : Nat) (L : Nat → Sl) (s : DS), k ≤ ps.length ∧ v10 = .int .i64 k ∧ Aside0 (At w1.heap.size L 4 0 g s 4 k w1 W) ∧ Aside0 (SInv s)) (fun v10 _ => ps.length - (intOf v10).toNat)
  case atStart => exact ⟨0, _, _, Nat.zero_le _, rfl, H, HS0⟩
  case round =>
    clear H HS0
    obtain ⟨k, L, s, hk, rfl, H, HS⟩ := hrel
    by_cases hlt : k < ps.length
    · have q1 : ((k : Int) < (ps.length : Int)) = True := eq_true (by omega)
      have q2 : (k < ps.length) = True := eq_true hlt
      have q3 : (ps.length ≤ k) = False := eq_false (by omega)
      obtain ⟨⟨a, c⟩, hpk⟩ : ∃ p, ps[k]? = some p := ⟨_, List.getElem?_eq_getElem hlt⟩
      obtain ⟨cb, rfl⟩ := u8_of c (HX.out _ (List.mem_of_getElem? hpk))
      obtain ⟨ad, rfl, _, _⟩ := puts_at (Kd.C_below HP.out H.out.bel) k a _ hpk
      obtain ⟨hl0, hl1⟩ := least_in a 4 (by decide)
      have HLS := fun W => least_calls a 4 (by decide) (by decide) W
      obtain ⟨x, hx⟩ : ∃ x : Nat, leastF a 4 = x := ⟨(leastF a 4).toNat, by omega⟩
      rw [hx] at HLS
      have hx4 : x < 4 := by omega
      clear hl0 hl1 hx
      have FU := fun W => full_calls cb W
      by_cases hf : (k : Int) = f
      · subst hf
        go_upto_region 11 with (go_at_call 13; (with_reducible refine (at_flush H.out).mono ?_); rintro e w4 ⟨rfl, L4, h', _⟩; have n_H := Aside0.mk h'; clear H h'; have H := n_H; clear n_H; have n_HS := Aside0.mk (sinv_flush HS.out).1; clear HS; have HS := n_HS; clear n_HS)
        generalize hs4 : (flushS s).1 = s4 at H HS
        obtain ⟨_, e0, ha, hc⟩ := puts_at (Kd.C_below HP.out H.out.bel) k a _ hpk
        injection e0 with e0
        subst e0
        have KA := Aside0.mk ha
        have KC := Aside0.mk hc
        obtain ⟨w0, w2⟩ := sinv_write HS.out x (by rw [H.out.ok.seen]; exact hx4) (F cb) (F_size cb)
        have HS2 := Aside0.mk w0
        clear ha hc w0
        refine start_ (n := 15) (S := fun W => Below w4.heap.size w4 W) (ds := [13]) #[false, false, false, false, false, false, false, false, false, false, false, false, false, false, false] (by kernel_rfl) rfl rfl (below_drew1 (Below.refl _ _)) (fun hHeld => ?_); refine with_tabW dsf.tab11 dsf.bits11 (fun HT_ HW_ => ?_)
        generalize World.drew _ = wR at hHeld ⊢
        refine pure_ (i := 0) (N := some 41) (v := ?_) (a' := ?_) #[true, false, false, false, false, false, false, false, false, false, false, false, false, false, false] rfl rfl (any_of HT_.out (by kernel_rfl)) (fun _ _ _ h => h) (Or.inl ⟨by rfl, ?_⟩) ?_ ?_
        rotate_left
        · intro w'
          go_simp
          with_reducible rfl
        rotate_left
        · simp only [Act.put, List.setIfInBounds_toArray, List.set_cons_zero, List.set_cons_succ, i64_w, i32_w]
          rfl
        refine pure_ (i := 1) (N := some 42) (v := ?_) (a' := ?_) #[true, true, false, false, false, false, false, false, false, false, false, false, false, false, false] rfl rfl (any_of HT_.out (by kernel_rfl)) (fun _ _ _ h => h) (Or.inl ⟨by rfl, ?_⟩) ?_ ?_
        rotate_left
        · intro w'
          go_simp
          with_reducible rfl
        rotate_left
        · simp only [Act.put, List.setIfInBounds_toArray, List.set_cons_zero, List.set_cons_succ, i64_w, i32_w]
          rfl
        refine pure_ (i := 2) (N := some 43) (v := ?_) (a' := ?_) #[true, true, true, false, false, false, false, false, false, false, false, false, false, false, false] rfl rfl (any_of HT_.out (by kernel_rfl)) (fun _ _ _ h => h) (Or.inl ⟨by rfl, ?_⟩) ?_ ?_
        rotate_left
        · intro w'
          go_simp
          with_reducible rfl
        rotate_left
        · simp only [Act.put, List.setIfInBounds_toArray, List.set_cons_zero, List.set_cons_succ, i64_w, i32_w]
          rfl
        refine pure_ (i := 3) (N := some 44) (v := ?_) (a' := ?_) #[true, true, true, true, false, false, false, false, false, false, false, false, false, false, false] rfl rfl (any_of HT_.out (by kernel_rfl)) (fun _ _ _ h => h) (Or.inl ⟨by rfl, ?_⟩) ?_ ?_
        rotate_left
        · intro w'
          go_simp
          with_reducible rfl
        rotate_left
        · simp only [Act.put, List.setIfInBounds_toArray, List.set_cons_zero, List.set_cons_succ, i64_w, i32_w]
          rfl
        refine pure_ (i := 4) (N := some 45) (v := ?_) (a' := ?_) #[true, true, true, true, true, false, false, false, false, false, false, false, false, false, false] rfl rfl (any_of HT_.out (by kernel_rfl)) (fun _ _ _ h => h) (Or.inl ⟨by rfl, ?_⟩) ?_ ?_
        rotate_left
        · intro w'
          go_simp
          with_reducible rfl
        rotate_left
        · simp only [Act.put, List.setIfInBounds_toArray, List.set_cons_zero, List.set_cons_succ, i64_w, i32_w]
          rfl
        refine take_ (i := 5) (N := some 46) (v := ?_) (a' := ?_) #[true, true, true, true, true, true, false, false, false, false, false, false, false, false, false] rfl rfl (take_ofW HT_.out HW_.out (by kernel_rfl)) (fun _ _ _ h => h) (Or.inl ⟨by rfl, ?_⟩) hHeld ?_ ?_
        rotate_left
        · rintro w' s0
          have hK := below_cell' s0 KA.out
          go_simp
          with_reducible rfl
        rotate_left
        · simp only [Act.put, List.setIfInBounds_toArray, List.set_cons_zero, List.set_cons_succ, i64_w, i32_w]
          rfl
        refine pure_ (i := 7) (N := some 48) (v := ?_) (a' := ?_) #[true, true, true, true, true, true, false, true, false, false, false, false, false, false, false] rfl rfl (any_of HT_.out (by kernel_rfl)) (fun _ _ _ h => h) (Or.inl ⟨by rfl, ?_⟩) ?_ ?_
        rotate_left
        · intro w'
          go_simp
          with_reducible rfl
        rotate_left
        · simp only [Act.put, List.setIfInBounds_toArray, List.set_cons_zero, List.set_cons_succ, i64_w, i32_w]
          rfl
        refine pure_ (i := 8) (N := some 49) (v := ?_) (a' := ?_) #[true, true, true, true, true, true, false, true, true, false, false, false, false, false, false] rfl rfl (any_of HT_.out (by kernel_rfl)) (fun _ _ _ h => h) (Or.inl ⟨by rfl, ?_⟩) ?_ ?_
        rotate_left
        · intro w'
          go_simp
          with_reducible rfl
        rotate_left
        · simp only [Act.put, List.setIfInBounds_toArray, List.set_cons_zero, List.set_cons_succ, i64_w, i32_w]
          rfl
        refine pure_ (i := 9) (N := some 50) (v := ?_) (a' := ?_) #[true, true, true, true, true, true, false, true, true, true, false, false, false, false, false] rfl rfl (any_of HT_.out (by kernel_rfl)) (fun _ _ _ h => h) (Or.inl ⟨by rfl, ?_⟩) ?_ ?_
        rotate_left
        · intro w'
          go_simp
          with_reducible rfl
        rotate_left
        · simp only [Act.put, List.setIfInBounds_toArray, List.set_cons_zero, List.set_cons_succ, i64_w, i32_w]
          rfl
        refine pure_ (i := 10) (N := some 51) (v := ?_) (a' := ?_) #[true, true, true, true, true, true, false, true, true, true, true, false, false, false, false] rfl rfl (any_of HT_.out (by kernel_rfl)) (fun _ _ _ h => h) (Or.inl ⟨by rfl, ?_⟩) ?_ ?_
        rotate_left
        · intro w'
          go_simp
          with_reducible rfl
        rotate_left
        · simp only [Act.put, List.setIfInBounds_toArray, List.set_cons_zero, List.set_cons_succ, i64_w, i32_w]
          rfl
        refine take_ (i := 11) (N := some 52) (v := ?_) (a' := ?_) #[true, true, true, true, true, true, false, true, true, true, true, true, false, false, false] rfl rfl (take_ofW HT_.out HW_.out (by kernel_rfl)) (fun _ _ _ h => h) (Or.inl ⟨by rfl, ?_⟩) hHeld ?_ ?_
        rotate_left
        · rintro w' s0
          have hK := below_cell' s0 KC.out
          go_simp
          with_reducible rfl
        rotate_left
        · simp only [Act.put, List.setIfInBounds_toArray, List.set_cons_zero, List.set_cons_succ, i64_w, i32_w]
          rfl
        refine one_ (i := 6) (N := some 47) #[true, true, true, true, true, true, true, true, true, true, true, true, false, false, false] rfl rfl (one_of HT_.out (by kernel_rfl)) (by decide) (fun K hK => ?_)
        refine goes_ Try.func10 (by kernel_rfl) rfl #[.int .i64 a, .int .i64 4] (by rfl) rfl rfl (by (try simp only [List.map_toArray, List.map_cons, List.map_nil]); first | done | rfl) ?_
        with_reducible refine (HLS _).mono ?_
        rintro e wa ⟨rfl, hb⟩
        refine ⟨_, rfl, ?_⟩
        have hb2 := below_then hHeld hHeld.size hb
        refine hK.out _ _ hb2 (fun hHeld => ?_)
        clear hK K
        refine norm_ (a' := ?_) ?_ ?_
        rotate_left
        · show Act.put _ (some 47) _ = _
          simp only [Act.put, List.setIfInBounds_toArray, List.set_cons_zero, List.set_cons_succ, i64_w, i32_w]
          rfl
        clear hb2 hb
        refine one_ (i := 12) (N := some 53) #[true, true, true, true, true, true, true, true, true, true, true, true, true, false, false] rfl rfl (one_of HT_.out (by kernel_rfl)) (by decide) (fun K hK => ?_)
        refine goes_ Try.func12 (by kernel_rfl) rfl #[.int .u8 (cb.toNat : Int)] (by rfl) rfl rfl (by (try simp only [List.map_toArray, List.map_cons, List.map_nil]); first | done | rfl) ?_
        with_reducible refine (FU _).mono ?_
        rintro e wb ⟨rfl, hb⟩
        refine ⟨_, rfl, ?_⟩
        have hb2 := below_then hHeld hHeld.size hb
        refine hK.out _ _ hb2 (fun hHeld => ?_)
        clear hK K
        refine norm_ (a' := ?_) ?_ ?_
        rotate_left
        · show Act.put _ (some 53) _ = _
          simp only [Act.put, List.setIfInBounds_toArray, List.set_cons_zero, List.set_cons_succ, i64_w, i32_w]
          rfl
        clear hb2 hb
        refine last_ (i := 13) (N := some 54) #[true, true, true, true, true, true, true, true, true, true, true, true, true, true, false] rfl rfl (one_of HT_.out (by kernel_rfl)) (by decide) (fun K hK => ?_)
        refine goes_ Try.func11 (by kernel_rfl) rfl #[.pointer (some ⟨g, 0, none⟩), .int .i64 (x : Int), .string (F cb)] (by rfl) rfl rfl (by (try simp only [List.map_toArray, List.map_cons, List.map_nil]); first | done | rfl) ?_
        with_reducible refine (at_write (H.out.below hHeld) (x : Int) (F cb) (by omega)).mono ?_
        rintro e wc ⟨rfl, L9, h', _⟩
        refine ⟨_, rfl, ?_⟩
        refine hK.out _ _ ?_
        clear hK K
        refine norm_ (a' := ?_) ?_ ?_
        rotate_left
        · show Act.put _ (some 54) _ = _
          simp only [Act.put, List.setIfInBounds_toArray, List.set_cons_zero, List.set_cons_succ, i64_w, i32_w]
          rfl
        refine pure_ (i := 14) (N := some 55) (v := ?_) (a' := ?_) #[true, true, true, true, true, true, true, true, true, true, true, true, true, true, true] rfl rfl (any_of HT_.out (by kernel_rfl)) (fun _ _ _ h => h) (Or.inl ⟨by rfl, ?_⟩) ?_ ?_
        rotate_left
        · intro w'
          go_simp
          with_reducible rfl
        rotate_left
        · simp only [Act.put, List.setIfInBounds_toArray, List.set_cons_zero, List.set_cons_succ, i64_w, i32_w]
          rfl
        refine done_ (done_of HT_.out (by kernel_rfl)) ?_
        clear hHeld
        have n_H := Aside0.mk h'; clear H h'; have H := n_H; clear n_H
        go_wp2
        exact ⟨⟨k + 1, L9, _, by omega, by go_num, H, HS2⟩, by simp [intOf]; omega⟩
      · have q4 : ((k : Int) = f) = False := eq_false hf
        have q5 : ((k : Int) == f) = false := by simp [hf]
        go_upto_region 11 with (fail)
        obtain ⟨_, e0, ha, hc⟩ := puts_at (Kd.C_below HP.out H.out.bel) k a _ hpk
        injection e0 with e0
        subst e0
        have KA := Aside0.mk ha
        have KC := Aside0.mk hc
        obtain ⟨w0, w2⟩ := sinv_write HS.out x (by rw [H.out.ok.seen]; exact hx4) (F cb) (F_size cb)
        have HS2 := Aside0.mk w0
        clear ha hc w0
        refine start_ (n := 15) (S := fun W => Below wr.heap.size wr W) (ds := [13]) #[false, false, false, false, false, false, false, false, false, false, false, false, false, false, false] (by kernel_rfl) rfl rfl (below_drew1 (Below.refl _ _)) (fun hHeld => ?_); refine with_tabW dsf.tab11 dsf.bits11 (fun HT_ HW_ => ?_)
        generalize World.drew _ = wR at hHeld ⊢
        refine pure_ (i := 0) (N := some 41) (v := ?_) (a' := ?_) #[true, false, false, false, false, false, false, false, false, false, false, false, false, false, false] rfl rfl (any_of HT_.out (by kernel_rfl)) (fun _ _ _ h => h) (Or.inl ⟨by rfl, ?_⟩) ?_ ?_
        rotate_left
        · intro w'
          go_simp
          with_reducible rfl
        rotate_left
        · simp only [Act.put, List.setIfInBounds_toArray, List.set_cons_zero, List.set_cons_succ, i64_w, i32_w]
          rfl
        refine pure_ (i := 1) (N := some 42) (v := ?_) (a' := ?_) #[true, true, false, false, false, false, false, false, false, false, false, false, false, false, false] rfl rfl (any_of HT_.out (by kernel_rfl)) (fun _ _ _ h => h) (Or.inl ⟨by rfl, ?_⟩) ?_ ?_
        rotate_left
        · intro w'
          go_simp
          with_reducible rfl
        rotate_left
        · simp only [Act.put, List.setIfInBounds_toArray, List.set_cons_zero, List.set_cons_succ, i64_w, i32_w]
          rfl
        refine pure_ (i := 2) (N := some 43) (v := ?_) (a' := ?_) #[true, true, true, false, false, false, false, false, false, false, false, false, false, false, false] rfl rfl (any_of HT_.out (by kernel_rfl)) (fun _ _ _ h => h) (Or.inl ⟨by rfl, ?_⟩) ?_ ?_
        rotate_left
        · intro w'
          go_simp
          with_reducible rfl
        rotate_left
        · simp only [Act.put, List.setIfInBounds_toArray, List.set_cons_zero, List.set_cons_succ, i64_w, i32_w]
          rfl
        refine pure_ (i := 3) (N := some 44) (v := ?_) (a' := ?_) #[true, true, true, true, false, false, false, false, false, false, false, false, false, false, false] rfl rfl (any_of HT_.out (by kernel_rfl)) (fun _ _ _ h => h) (Or.inl ⟨by rfl, ?_⟩) ?_ ?_
        rotate_left
        · intro w'
          go_simp
          with_reducible rfl
        rotate_left
        · simp only [Act.put, List.setIfInBounds_toArray, List.set_cons_zero, List.set_cons_succ, i64_w, i32_w]
          rfl
        refine pure_ (i := 4) (N := some 45) (v := ?_) (a' := ?_) #[true, true, true, true, true, false, false, false, false, false, false, false, false, false, false] rfl rfl (any_of HT_.out (by kernel_rfl)) (fun _ _ _ h => h) (Or.inl ⟨by rfl, ?_⟩) ?_ ?_
        rotate_left
        · intro w'
          go_simp
          with_reducible rfl
        rotate_left
        · simp only [Act.put, List.setIfInBounds_toArray, List.set_cons_zero, List.set_cons_succ, i64_w, i32_w]
          rfl
        refine take_ (i := 5) (N := some 46) (v := ?_) (a' := ?_) #[true, true, true, true, true, true, false, false, false, false, false, false, false, false, false] rfl rfl (take_ofW HT_.out HW_.out (by kernel_rfl)) (fun _ _ _ h => h) (Or.inl ⟨by rfl, ?_⟩) hHeld ?_ ?_
        rotate_left
        · rintro w' s0
          have hK := below_cell' s0 KA.out
          go_simp
          with_reducible rfl
        rotate_left
        · simp only [Act.put, List.setIfInBounds_toArray, List.set_cons_zero, List.set_cons_succ, i64_w, i32_w]
          rfl
        refine pure_ (i := 7) (N := some 48) (v := ?_) (a' := ?_) #[true, true, true, true, true, true, false, true, false, false, false, false, false, false, false] rfl rfl (any_of HT_.out (by kernel_rfl)) (fun _ _ _ h => h) (Or.inl ⟨by rfl, ?_⟩) ?_ ?_
        rotate_left
        · intro w'
          go_simp
          with_reducible rfl
        rotate_left
        · simp only [Act.put, List.setIfInBounds_toArray, List.set_cons_zero, List.set_cons_succ, i64_w, i32_w]
          rfl
        refine pure_ (i := 8) (N := some 49) (v := ?_) (a' := ?_) #[true, true, true, true, true, true, false, true, true, false, false, false, false, false, false] rfl rfl (any_of HT_.out (by kernel_rfl)) (fun _ _ _ h => h) (Or.inl ⟨by rfl, ?_⟩) ?_ ?_
        rotate_left
        · intro w'
          go_simp
          with_reducible rfl
        rotate_left
        · simp only [Act.put, List.setIfInBounds_toArray, List.set_cons_zero, List.set_cons_succ, i64_w, i32_w]
          rfl
        refine pure_ (i := 9) (N := some 50) (v := ?_) (a' := ?_) #[true, true, true, true, true, true, false, true, true, true, false, false, false, false, false] rfl rfl (any_of HT_.out (by kernel_rfl)) (fun _ _ _ h => h) (Or.inl ⟨by rfl, ?_⟩) ?_ ?_
        rotate_left
        · intro w'
          go_simp
          with_reducible rfl
        rotate_left
        · simp only [Act.put, List.setIfInBounds_toArray, List.set_cons_zero, List.set_cons_succ, i64_w, i32_w]
          rfl
        refine pure_ (i := 10) (N := some 51) (v := ?_) (a' := ?_) #[true, true, true, true, true, true, false, true, true, true, true, false, false, false, false] rfl rfl (any_of HT_.out (by kernel_rfl)) (fun _ _ _ h => h) (Or.inl ⟨by rfl, ?_⟩) ?_ ?_
        rotate_left
        · intro w'
          go_simp
          with_reducible rfl
        rotate_left
        · simp only [Act.put, List.setIfInBounds_toArray, List.set_cons_zero, List.set_cons_succ, i64_w, i32_w]
          rfl
        refine take_ (i := 11) (N := some 52) (v := ?_) (a' := ?_) #[true, true, true, true, true, true, false, true, true, true, true, true, false, false, false] rfl rfl (take_ofW HT_.out HW_.out (by kernel_rfl)) (fun _ _ _ h => h) (Or.inl ⟨by rfl, ?_⟩) hHeld ?_ ?_
        rotate_left
        · rintro w' s0
          have hK := below_cell' s0 KC.out
          go_simp
          with_reducible rfl
        rotate_left
        · simp only [Act.put, List.setIfInBounds_toArray, List.set_cons_zero, List.set_cons_succ, i64_w, i32_w]
          rfl
        refine one_ (i := 6) (N := some 47) #[true, true, true, true, true, true, true, true, true, true, true, true, false, false, false] rfl rfl (one_of HT_.out (by kernel_rfl)) (by decide) (fun K hK => ?_)
        refine goes_ Try.func10 (by kernel_rfl) rfl #[.int .i64 a, .int .i64 4] (by rfl) rfl rfl (by (try simp only [List.map_toArray, List.map_cons, List.map_nil]); first | done | rfl) ?_
        with_reducible refine (HLS _).mono ?_
        rintro e wa ⟨rfl, hb⟩
        refine ⟨_, rfl, ?_⟩
        have hb2 := below_then hHeld hHeld.size hb
        refine hK.out _ _ hb2 (fun hHeld => ?_)
        clear hK K
        refine norm_ (a' := ?_) ?_ ?_
        rotate_left
        · show Act.put _ (some 47) _ = _
          simp only [Act.put, List.setIfInBounds_toArray, List.set_cons_zero, List.set_cons_succ, i64_w, i32_w]
          rfl
        clear hb2 hb
        refine one_ (i := 12) (N := some 53) #[true, true, true, true, true, true, true, true, true, true, true, true, true, false, false] rfl rfl (one_of HT_.out (by kernel_rfl)) (by decide) (fun K hK => ?_)
        refine goes_ Try.func12 (by kernel_rfl) rfl #[.int .u8 (cb.toNat : Int)] (by rfl) rfl rfl (by (try simp only [List.map_toArray, List.map_cons, List.map_nil]); first | done | rfl) ?_
        with_reducible refine (FU _).mono ?_
        rintro e wb ⟨rfl, hb⟩
        refine ⟨_, rfl, ?_⟩
        have hb2 := below_then hHeld hHeld.size hb
        refine hK.out _ _ hb2 (fun hHeld => ?_)
        clear hK K
        refine norm_ (a' := ?_) ?_ ?_
        rotate_left
        · show Act.put _ (some 53) _ = _
          simp only [Act.put, List.setIfInBounds_toArray, List.set_cons_zero, List.set_cons_succ, i64_w, i32_w]
          rfl
        clear hb2 hb
        refine last_ (i := 13) (N := some 54) #[true, true, true, true, true, true, true, true, true, true, true, true, true, true, false] rfl rfl (one_of HT_.out (by kernel_rfl)) (by decide) (fun K hK => ?_)
        refine goes_ Try.func11 (by kernel_rfl) rfl #[.pointer (some ⟨g, 0, none⟩), .int .i64 (x : Int), .string (F cb)] (by rfl) rfl rfl (by (try simp only [List.map_toArray, List.map_cons, List.map_nil]); first | done | rfl) ?_
        with_reducible refine (at_write (H.out.below hHeld) (x : Int) (F cb) (by omega)).mono ?_
        rintro e wc ⟨rfl, L9, h', _⟩
        refine ⟨_, rfl, ?_⟩
        refine hK.out _ _ ?_
        clear hK K
        refine norm_ (a' := ?_) ?_ ?_
        rotate_left
        · show Act.put _ (some 54) _ = _
          simp only [Act.put, List.setIfInBounds_toArray, List.set_cons_zero, List.set_cons_succ, i64_w, i32_w]
          rfl
        refine pure_ (i := 14) (N := some 55) (v := ?_) (a' := ?_) #[true, true, true, true, true, true, true, true, true, true, true, true, true, true, true] rfl rfl (any_of HT_.out (by kernel_rfl)) (fun _ _ _ h => h) (Or.inl ⟨by rfl, ?_⟩) ?_ ?_
        rotate_left
        · intro w'
          go_simp
          with_reducible rfl
        rotate_left
        · simp only [Act.put, List.setIfInBounds_toArray, List.set_cons_zero, List.set_cons_succ, i64_w, i32_w]
          rfl
        refine done_ (done_of HT_.out (by kernel_rfl)) ?_
        clear hHeld
        have n_H := Aside0.mk h'; clear H h'; have H := n_H; clear n_H
        go_wp2
        exact ⟨⟨k + 1, L9, _, by omega, by go_num, H, HS2⟩, by simp [intOf]; omega⟩
    · have q1 : ((k : Int) < (ps.length : Int)) = False := eq_false (by omega)
      have hkb : k ≤ 1048576 := by omega
      clear hlt hk hl
      go_upto_region 16 with (go_at_call 19; (with_reducible refine (at_copy H.out).mono ?_); rintro e w4 ⟨g2, L4, rfl, h', hc, _⟩; have n_H : Aside0 (At w1.heap.size L4 8 0 g s 4 k w1 w4) := ⟨h'⟩; have HC : Aside0 (At w1.heap.size L4 8 4 g2 s 4 k w1 w4) := ⟨hc⟩; clear hc h' H; have H := n_H; clear n_H)
      obtain ⟨s1, hs1⟩ : ∃ s1, s1 = crashS s [] := ⟨_, rfl⟩
      obtain ⟨s2, hs2⟩ : ∃ s2, s2 = onS s1 := ⟨_, rfl⟩
      have S1 : Aside0 (s1.off = true) := ⟨by rw [hs1]; exact (sinv_crash HS.out []).1⟩
      have S2 : Aside0 (SInv s2) := ⟨by rw [hs2, hs1]; exact (sinv_crash HS.out []).2⟩
      have E1 := Aside0.mk hs1.symm
      have E2 := Aside0.mk hs2.symm
      clear hs1 hs2 q1
      obtain ⟨fx, hfx⟩ : ∃ z, z = F 120 := ⟨_, rfl⟩
      have FX : ∀ W : World, Calls Try.prog 12 #[.int .u8 120] W fun e w' => e = .returned (.string fx) ∧ Below W.heap.size W w' := fun W => by rw [hfx]; exact full_calls 120 W
      clear hfx
      by_cases h0 : 0 ≤ n
      · have n0 : (0 ≤ n) = True := eq_true h0
        have n0' : (n ≥ 0) = True := eq_true h0
        by_cases h4 : n < 4
        · have n1 : (n < 4) = True := eq_true h4
          obtain ⟨o, ho⟩ : ∃ o, o = n + 4 := ⟨_, rfl⟩
          have no : wrap64 (n + 4) = o := by rw [ho]; unfold wrap64; omega
          have hout : ¬ (0 ≤ o ∧ o < ((4 : Nat) : Int)) := by omega
          clear ho h0 h4
          by_cases ht : tx.size = 512
          · have t0 : (tx.size = 512) = True := eq_true ht
            have t1 : ((tx.size : Int) = 512) = True := eq_true (by omega)
            have t2 : ((tx.size : Int) == 512) = true := by simp [ht]
            go_upto_region 21 with (fail)
            have htx : (tx ++ ⟨#[120]⟩).size ≠ 512 := by rw [ByteArray.size_append, ht]; decide
            go_wp2_with (first
              | (go_at_call 17; (with_reducible refine (read_refuse H.out HS.out.off _ hout).mono ?_); rintro e w' ⟨rfl, rfl⟩)
              | (go_at_call 12; (with_reducible refine (FX _).mono ?_); rintro e w5 ⟨rfl, hb⟩; have h' := H.out.below hb; have c' := HC.out.below hb; clear hb; have n_H := Aside0.mk h'; clear H h'; have H := n_H; clear n_H; have n_HC := Aside0.mk c'; clear HC c'; have HC := n_HC; clear n_HC)
              | (go_at_call 11; (with_reducible refine (at_refuse_n H.out HS.out.off _ _ hout (by omega)).mono ?_); rintro e w6 ⟨rfl, L5, h', e5⟩; have c' := at_pair HC.out h' e5 (by omega); clear e5; have n_H := Aside0.mk h'; clear H h'; have H := n_H; clear n_H; have n_HC := Aside0.mk c'; clear HC c'; have HC := n_HC; clear n_HC)
              | (go_at_call 11; (with_reducible refine (at_refuse_t H.out HS.out.off _ _ htx (by omega)).mono ?_); rintro e w7 ⟨rfl, L6, h', e6⟩; have c' := at_pair HC.out h' e6 (by omega); clear e6; have n_H := Aside0.mk h'; clear H h'; have H := n_H; clear n_H; have n_HC := Aside0.mk c'; clear HC c'; have HC := n_HC; clear n_HC)
              | (go_at_call 20; (with_reducible refine (pending_calls H.out.many H.out.disk H.out.hi).mono ?_); rintro e w' ⟨rfl, rfl⟩)
              | (go_at_call 20; (with_reducible refine (pending_calls HC.out.many HC.out.disk HC.out.hi).mono ?_); rintro e w' ⟨rfl, rfl⟩))
            clear hout htx
            go_loopw [15] (fun v15 W => ∃ i : Nat, i ≤ 4 ∧ v15 = .int .i64 i ∧ Aside0 (At w1.heap.size L6 8 0 g s 4 (k + 1 + 1) w1 W) ∧ Aside0 (At w1.heap.size L6 8 4 g2 s 4 k w1 W)) (fun v15 _ => 4 - (intOf v15).toNat)
            case atStart => exact ⟨0, Nat.zero_le _, rfl, H, HC⟩
            case round =>
              clear H HC
              obtain ⟨i, hi, rfl, H, HC⟩ := hrel
              by_cases hlt : i < 4
              · have q1 : ((i : Int) < 4) = True := eq_true (by omega)
                have q2 : (i < 4) = True := eq_true hlt
                go_wp2_with (first
                  | (go_at_call 17; (with_reducible refine (read_ok H.out HS.out.off i hlt).mono ?_); rintro e w' ⟨rfl, rfl⟩)
                  | (go_at_call 17; (with_reducible refine (read_ok HC.out HS.out.off i hlt).mono ?_); rintro e w' ⟨rfl, rfl⟩))
                exact ⟨⟨i + 1, by omega, by go_num, H, HC⟩, by simp [intOf]; omega⟩
              · have q1 : ((i : Int) < 4) = False := eq_false (by omega)
                clear hlt hi
                go_wp2_with (first
                  | (go_at_call 15; (with_reducible refine (crash_nil H.out).mono ?_); rintro e w8 ⟨rfl, L7, h', e7⟩; rw [E1.out] at h'; have c' := at_pair HC.out h' e7 (by omega); clear e7; have n_H := Aside0.mk h'; clear H h'; have H := n_H; clear n_H; have n_HC := Aside0.mk c'; clear HC c'; have HC := n_HC; clear n_HC)
                  | (go_at_call 15; (with_reducible refine (crash_nil HC.out).mono ?_); rintro e w9 ⟨rfl, L8, c', e8⟩; rw [E1.out] at c'; have h' := at_pair H.out c' e8 (by omega); clear e8; have n_H := Aside0.mk h'; clear H h'; have H := n_H; clear n_H; have n_HC := Aside0.mk c'; clear HC c'; have HC := n_HC; clear n_HC)
                  | (go_at_call 12; (with_reducible refine (FX _).mono ?_); rintro e w10 ⟨rfl, hb⟩; have h' := H.out.below hb; have c' := HC.out.below hb; clear hb; have n_H := Aside0.mk h'; clear H h'; have H := n_H; clear n_H; have n_HC := Aside0.mk c'; clear HC c'; have HC := n_HC; clear n_HC)
                  | (go_at_call 11; (with_reducible refine (at_write_off H.out S1.out _ _ (by omega)).mono ?_); rintro e w11 ⟨rfl, L9, h', e9⟩; have c' := at_pair HC.out h' e9 (by omega); clear e9; have n_H := Aside0.mk h'; clear H h'; have H := n_H; clear n_H; have n_HC := Aside0.mk c'; clear HC c'; have HC := n_HC; clear n_HC)
                  | (go_at_call 13; (with_reducible refine (at_flush_off H.out S1.out).mono ?_); rintro e w12 ⟨rfl, L10, h', e10⟩; have c' := at_pair HC.out h' e10 (by omega); clear e10; have n_H := Aside0.mk h'; clear H h'; have H := n_H; clear n_H; have n_HC := Aside0.mk c'; clear HC c'; have HC := n_HC; clear n_HC)
                  | (go_at_call 16; (with_reducible refine (at_on H.out).mono ?_); rintro e w13 ⟨rfl, L11, h', e11⟩; rw [E2.out] at h'; have c' := at_pair HC.out h' e11 (by omega); clear e11; have n_H := Aside0.mk h'; clear H h'; have H := n_H; clear n_H; have n_HC := Aside0.mk c'; clear HC c'; have HC := n_HC; clear n_HC)
                  | (go_at_call 16; (with_reducible refine (at_on HC.out).mono ?_); rintro e w14 ⟨rfl, L12, c', e12⟩; rw [E2.out] at c'; have h' := at_pair H.out c' e12 (by omega); clear e12; have n_H := Aside0.mk h'; clear H h'; have H := n_H; clear n_H; have n_HC := Aside0.mk c'; clear HC c'; have HC := n_HC; clear n_HC))
                clear q1
                go_loopw [20] (fun v20 W => ∃ i : Nat, i ≤ 4 ∧ v20 = .int .i64 i ∧ Aside0 (At w1.heap.size L12 8 0 g s2 4 (k + 1 + 1 + 1) w1 W) ∧ Aside0 (At w1.heap.size L12 8 4 g2 s2 4 k w1 W)) (fun v20 _ => 4 - (intOf v20).toNat)
                case atStart => exact ⟨0, Nat.zero_le _, rfl, H, HC⟩
                case round =>
                  clear H HC
                  obtain ⟨i, hi, rfl, H, HC⟩ := hrel
                  by_cases hlt : i < 4
                  · have q1 : ((i : Int) < 4) = True := eq_true (by omega)
                    have q2 : (i < 4) = True := eq_true hlt
                    go_wp2_with (first
                      | (go_at_call 17; (with_reducible refine (read_ok H.out S2.out.off i hlt).mono ?_); rintro e w' ⟨rfl, rfl⟩)
                      | (go_at_call 17; (with_reducible refine (read_ok HC.out S2.out.off i hlt).mono ?_); rintro e w' ⟨rfl, rfl⟩))
                    exact ⟨⟨i + 1, by omega, by go_num, H, HC⟩, by simp [intOf]; omega⟩
                  · have q1 : ((i : Int) < 4) = False := eq_false (by omega)
                    go_wp2
                    go_ret
                    exact ⟨rfl, below_then D0.out D0.out.size H.out.bel⟩
          · have t0 : (tx.size = 512) = False := eq_false ht
            have t1 : ((tx.size : Int) = 512) = False := eq_false (by omega)
            have t2 : ((tx.size : Int) == 512) = false := by simp; omega
            go_upto_region 21 with (fail)
            have htx : tx.size ≠ 512 := ht
            go_wp2_with (first
              | (go_at_call 17; (with_reducible refine (read_refuse H.out HS.out.off _ hout).mono ?_); rintro e w' ⟨rfl, rfl⟩)
              | (go_at_call 12; (with_reducible refine (FX _).mono ?_); rintro e w5 ⟨rfl, hb⟩; have h' := H.out.below hb; have c' := HC.out.below hb; clear hb; have n_H := Aside0.mk h'; clear H h'; have H := n_H; clear n_H; have n_HC := Aside0.mk c'; clear HC c'; have HC := n_HC; clear n_HC)
              | (go_at_call 11; (with_reducible refine (at_refuse_n H.out HS.out.off _ _ hout (by omega)).mono ?_); rintro e w6 ⟨rfl, L5, h', e5⟩; have c' := at_pair HC.out h' e5 (by omega); clear e5; have n_H := Aside0.mk h'; clear H h'; have H := n_H; clear n_H; have n_HC := Aside0.mk c'; clear HC c'; have HC := n_HC; clear n_HC)
              | (go_at_call 11; (with_reducible refine (at_refuse_t H.out HS.out.off _ _ htx (by omega)).mono ?_); rintro e w7 ⟨rfl, L6, h', e6⟩; have c' := at_pair HC.out h' e6 (by omega); clear e6; have n_H := Aside0.mk h'; clear H h'; have H := n_H; clear n_H; have n_HC := Aside0.mk c'; clear HC c'; have HC := n_HC; clear n_HC)
              | (go_at_call 20; (with_reducible refine (pending_calls H.out.many H.out.disk H.out.hi).mono ?_); rintro e w' ⟨rfl, rfl⟩)
              | (go_at_call 20; (with_reducible refine (pending_calls HC.out.many HC.out.disk HC.out.hi).mono ?_); rintro e w' ⟨rfl, rfl⟩))
            clear hout htx
            go_loopw [15] (fun v15 W => ∃ i : Nat, i ≤ 4 ∧ v15 = .int .i64 i ∧ Aside0 (At w1.heap.size L6 8 0 g s 4 (k + 1 + 1) w1 W) ∧ Aside0 (At w1.heap.size L6 8 4 g2 s 4 k w1 W)) (fun v15 _ => 4 - (intOf v15).toNat)
            case atStart => exact ⟨0, Nat.zero_le _, rfl, H, HC⟩
            case round =>
              clear H HC
              obtain ⟨i, hi, rfl, H, HC⟩ := hrel
              by_cases hlt : i < 4
              · have q1 : ((i : Int) < 4) = True := eq_true (by omega)
                have q2 : (i < 4) = True := eq_true hlt
                go_wp2_with (first
                  | (go_at_call 17; (with_reducible refine (read_ok H.out HS.out.off i hlt).mono ?_); rintro e w' ⟨rfl, rfl⟩)
                  | (go_at_call 17; (with_reducible refine (read_ok HC.out HS.out.off i hlt).mono ?_); rintro e w' ⟨rfl, rfl⟩))
                exact ⟨⟨i + 1, by omega, by go_num, H, HC⟩, by simp [intOf]; omega⟩
              · have q1 : ((i : Int) < 4) = False := eq_false (by omega)
                clear hlt hi
                go_wp2_with (first
                  | (go_at_call 15; (with_reducible refine (crash_nil H.out).mono ?_); rintro e w8 ⟨rfl, L7, h', e7⟩; rw [E1.out] at h'; have c' := at_pair HC.out h' e7 (by omega); clear e7; have n_H := Aside0.mk h'; clear H h'; have H := n_H; clear n_H; have n_HC := Aside0.mk c'; clear HC c'; have HC := n_HC; clear n_HC)
                  | (go_at_call 15; (with_reducible refine (crash_nil HC.out).mono ?_); rintro e w9 ⟨rfl, L8, c', e8⟩; rw [E1.out] at c'; have h' := at_pair H.out c' e8 (by omega); clear e8; have n_H := Aside0.mk h'; clear H h'; have H := n_H; clear n_H; have n_HC := Aside0.mk c'; clear HC c'; have HC := n_HC; clear n_HC)
                  | (go_at_call 12; (with_reducible refine (FX _).mono ?_); rintro e w10 ⟨rfl, hb⟩; have h' := H.out.below hb; have c' := HC.out.below hb; clear hb; have n_H := Aside0.mk h'; clear H h'; have H := n_H; clear n_H; have n_HC := Aside0.mk c'; clear HC c'; have HC := n_HC; clear n_HC)
                  | (go_at_call 11; (with_reducible refine (at_write_off H.out S1.out _ _ (by omega)).mono ?_); rintro e w11 ⟨rfl, L9, h', e9⟩; have c' := at_pair HC.out h' e9 (by omega); clear e9; have n_H := Aside0.mk h'; clear H h'; have H := n_H; clear n_H; have n_HC := Aside0.mk c'; clear HC c'; have HC := n_HC; clear n_HC)
                  | (go_at_call 13; (with_reducible refine (at_flush_off H.out S1.out).mono ?_); rintro e w12 ⟨rfl, L10, h', e10⟩; have c' := at_pair HC.out h' e10 (by omega); clear e10; have n_H := Aside0.mk h'; clear H h'; have H := n_H; clear n_H; have n_HC := Aside0.mk c'; clear HC c'; have HC := n_HC; clear n_HC)
                  | (go_at_call 16; (with_reducible refine (at_on H.out).mono ?_); rintro e w13 ⟨rfl, L11, h', e11⟩; rw [E2.out] at h'; have c' := at_pair HC.out h' e11 (by omega); clear e11; have n_H := Aside0.mk h'; clear H h'; have H := n_H; clear n_H; have n_HC := Aside0.mk c'; clear HC c'; have HC := n_HC; clear n_HC)
                  | (go_at_call 16; (with_reducible refine (at_on HC.out).mono ?_); rintro e w14 ⟨rfl, L12, c', e12⟩; rw [E2.out] at c'; have h' := at_pair H.out c' e12 (by omega); clear e12; have n_H := Aside0.mk h'; clear H h'; have H := n_H; clear n_H; have n_HC := Aside0.mk c'; clear HC c'; have HC := n_HC; clear n_HC))
                clear q1
                go_loopw [20] (fun v20 W => ∃ i : Nat, i ≤ 4 ∧ v20 = .int .i64 i ∧ Aside0 (At w1.heap.size L12 8 0 g s2 4 (k + 1 + 1 + 1) w1 W) ∧ Aside0 (At w1.heap.size L12 8 4 g2 s2 4 k w1 W)) (fun v20 _ => 4 - (intOf v20).toNat)
                case atStart => exact ⟨0, Nat.zero_le _, rfl, H, HC⟩
                case round =>
                  clear H HC
                  obtain ⟨i, hi, rfl, H, HC⟩ := hrel
                  by_cases hlt : i < 4
                  · have q1 : ((i : Int) < 4) = True := eq_true (by omega)
                    have q2 : (i < 4) = True := eq_true hlt
                    go_wp2_with (first
                      | (go_at_call 17; (with_reducible refine (read_ok H.out S2.out.off i hlt).mono ?_); rintro e w' ⟨rfl, rfl⟩)
                      | (go_at_call 17; (with_reducible refine (read_ok HC.out S2.out.off i hlt).mono ?_); rintro e w' ⟨rfl, rfl⟩))
                    exact ⟨⟨i + 1, by omega, by go_num, H, HC⟩, by simp [intOf]; omega⟩
                  · have q1 : ((i : Int) < 4) = False := eq_false (by omega)
                    go_wp2
                    go_ret
                    exact ⟨rfl, below_then D0.out D0.out.size H.out.bel⟩
        · have n1 : (n < 4) = False := eq_false h4
          have hout : ¬ (0 ≤ n ∧ n < ((4 : Nat) : Int)) := by omega
          clear h0 h4
          by_cases ht : tx.size = 512
          · have t0 : (tx.size = 512) = True := eq_true ht
            have t1 : ((tx.size : Int) = 512) = True := eq_true (by omega)
            have t2 : ((tx.size : Int) == 512) = true := by simp [ht]
            go_upto_region 21 with (fail)
            have htx : (tx ++ ⟨#[120]⟩).size ≠ 512 := by rw [ByteArray.size_append, ht]; decide
            go_wp2_with (first
              | (go_at_call 17; (with_reducible refine (read_refuse H.out HS.out.off _ hout).mono ?_); rintro e w' ⟨rfl, rfl⟩)
              | (go_at_call 12; (with_reducible refine (FX _).mono ?_); rintro e w5 ⟨rfl, hb⟩; have h' := H.out.below hb; have c' := HC.out.below hb; clear hb; have n_H := Aside0.mk h'; clear H h'; have H := n_H; clear n_H; have n_HC := Aside0.mk c'; clear HC c'; have HC := n_HC; clear n_HC)
              | (go_at_call 11; (with_reducible refine (at_refuse_n H.out HS.out.off _ _ hout (by omega)).mono ?_); rintro e w6 ⟨rfl, L5, h', e5⟩; have c' := at_pair HC.out h' e5 (by omega); clear e5; have n_H := Aside0.mk h'; clear H h'; have H := n_H; clear n_H; have n_HC := Aside0.mk c'; clear HC c'; have HC := n_HC; clear n_HC)
              | (go_at_call 11; (with_reducible refine (at_refuse_t H.out HS.out.off _ _ htx (by omega)).mono ?_); rintro e w7 ⟨rfl, L6, h', e6⟩; have c' := at_pair HC.out h' e6 (by omega); clear e6; have n_H := Aside0.mk h'; clear H h'; have H := n_H; clear n_H; have n_HC := Aside0.mk c'; clear HC c'; have HC := n_HC; clear n_HC)
              | (go_at_call 20; (with_reducible refine (pending_calls H.out.many H.out.disk H.out.hi).mono ?_); rintro e w' ⟨rfl, rfl⟩)
              | (go_at_call 20; (with_reducible refine (pending_calls HC.out.many HC.out.disk HC.out.hi).mono ?_); rintro e w' ⟨rfl, rfl⟩))
            clear hout htx
            go_loopw [15] (fun v15 W => ∃ i : Nat, i ≤ 4 ∧ v15 = .int .i64 i ∧ Aside0 (At w1.heap.size L6 8 0 g s 4 (k + 1 + 1) w1 W) ∧ Aside0 (At w1.heap.size L6 8 4 g2 s 4 k w1 W)) (fun v15 _ => 4 - (intOf v15).toNat)
            case atStart => exact ⟨0, Nat.zero_le _, rfl, H, HC⟩
            case round =>
              clear H HC
              obtain ⟨i, hi, rfl, H, HC⟩ := hrel
              by_cases hlt : i < 4
              · have q1 : ((i : Int) < 4) = True := eq_true (by omega)
                have q2 : (i < 4) = True := eq_true hlt
                go_wp2_with (first
                  | (go_at_call 17; (with_reducible refine (read_ok H.out HS.out.off i hlt).mono ?_); rintro e w' ⟨rfl, rfl⟩)
                  | (go_at_call 17; (with_reducible refine (read_ok HC.out HS.out.off i hlt).mono ?_); rintro e w' ⟨rfl, rfl⟩))
                exact ⟨⟨i + 1, by omega, by go_num, H, HC⟩, by simp [intOf]; omega⟩
              · have q1 : ((i : Int) < 4) = False := eq_false (by omega)
                clear hlt hi
                go_wp2_with (first
                  | (go_at_call 15; (with_reducible refine (crash_nil H.out).mono ?_); rintro e w8 ⟨rfl, L7, h', e7⟩; rw [E1.out] at h'; have c' := at_pair HC.out h' e7 (by omega); clear e7; have n_H := Aside0.mk h'; clear H h'; have H := n_H; clear n_H; have n_HC := Aside0.mk c'; clear HC c'; have HC := n_HC; clear n_HC)
                  | (go_at_call 15; (with_reducible refine (crash_nil HC.out).mono ?_); rintro e w9 ⟨rfl, L8, c', e8⟩; rw [E1.out] at c'; have h' := at_pair H.out c' e8 (by omega); clear e8; have n_H := Aside0.mk h'; clear H h'; have H := n_H; clear n_H; have n_HC := Aside0.mk c'; clear HC c'; have HC := n_HC; clear n_HC)
                  | (go_at_call 12; (with_reducible refine (FX _).mono ?_); rintro e w10 ⟨rfl, hb⟩; have h' := H.out.below hb; have c' := HC.out.below hb; clear hb; have n_H := Aside0.mk h'; clear H h'; have H := n_H; clear n_H; have n_HC := Aside0.mk c'; clear HC c'; have HC := n_HC; clear n_HC)
                  | (go_at_call 11; (with_reducible refine (at_write_off H.out S1.out _ _ (by omega)).mono ?_); rintro e w11 ⟨rfl, L9, h', e9⟩; have c' := at_pair HC.out h' e9 (by omega); clear e9; have n_H := Aside0.mk h'; clear H h'; have H := n_H; clear n_H; have n_HC := Aside0.mk c'; clear HC c'; have HC := n_HC; clear n_HC)
                  | (go_at_call 13; (with_reducible refine (at_flush_off H.out S1.out).mono ?_); rintro e w12 ⟨rfl, L10, h', e10⟩; have c' := at_pair HC.out h' e10 (by omega); clear e10; have n_H := Aside0.mk h'; clear H h'; have H := n_H; clear n_H; have n_HC := Aside0.mk c'; clear HC c'; have HC := n_HC; clear n_HC)
                  | (go_at_call 16; (with_reducible refine (at_on H.out).mono ?_); rintro e w13 ⟨rfl, L11, h', e11⟩; rw [E2.out] at h'; have c' := at_pair HC.out h' e11 (by omega); clear e11; have n_H := Aside0.mk h'; clear H h'; have H := n_H; clear n_H; have n_HC := Aside0.mk c'; clear HC c'; have HC := n_HC; clear n_HC)
                  | (go_at_call 16; (with_reducible refine (at_on HC.out).mono ?_); rintro e w14 ⟨rfl, L12, c', e12⟩; rw [E2.out] at c'; have h' := at_pair H.out c' e12 (by omega); clear e12; have n_H := Aside0.mk h'; clear H h'; have H := n_H; clear n_H; have n_HC := Aside0.mk c'; clear HC c'; have HC := n_HC; clear n_HC))
                clear q1
                go_loopw [20] (fun v20 W => ∃ i : Nat, i ≤ 4 ∧ v20 = .int .i64 i ∧ Aside0 (At w1.heap.size L12 8 0 g s2 4 (k + 1 + 1 + 1) w1 W) ∧ Aside0 (At w1.heap.size L12 8 4 g2 s2 4 k w1 W)) (fun v20 _ => 4 - (intOf v20).toNat)
                case atStart => exact ⟨0, Nat.zero_le _, rfl, H, HC⟩
                case round =>
                  clear H HC
                  obtain ⟨i, hi, rfl, H, HC⟩ := hrel
                  by_cases hlt : i < 4
                  · have q1 : ((i : Int) < 4) = True := eq_true (by omega)
                    have q2 : (i < 4) = True := eq_true hlt
                    go_wp2_with (first
                      | (go_at_call 17; (with_reducible refine (read_ok H.out S2.out.off i hlt).mono ?_); rintro e w' ⟨rfl, rfl⟩)
                      | (go_at_call 17; (with_reducible refine (read_ok HC.out S2.out.off i hlt).mono ?_); rintro e w' ⟨rfl, rfl⟩))
                    exact ⟨⟨i + 1, by omega, by go_num, H, HC⟩, by simp [intOf]; omega⟩
                  · have q1 : ((i : Int) < 4) = False := eq_false (by omega)
                    go_wp2
                    go_ret
                    exact ⟨rfl, below_then D0.out D0.out.size H.out.bel⟩
          · have t0 : (tx.size = 512) = False := eq_false ht
            have t1 : ((tx.size : Int) = 512) = False := eq_false (by omega)
            have t2 : ((tx.size : Int) == 512) = false := by simp; omega
            go_upto_region 21 with (fail)
            have htx : tx.size ≠ 512 := ht
            go_wp2_with (first
              | (go_at_call 17; (with_reducible refine (read_refuse H.out HS.out.off _ hout).mono ?_); rintro e w' ⟨rfl, rfl⟩)
              | (go_at_call 12; (with_reducible refine (FX _).mono ?_); rintro e w5 ⟨rfl, hb⟩; have h' := H.out.below hb; have c' := HC.out.below hb; clear hb; have n_H := Aside0.mk h'; clear H h'; have H := n_H; clear n_H; have n_HC := Aside0.mk c'; clear HC c'; have HC := n_HC; clear n_HC)
              | (go_at_call 11; (with_reducible refine (at_refuse_n H.out HS.out.off _ _ hout (by omega)).mono ?_); rintro e w6 ⟨rfl, L5, h', e5⟩; have c' := at_pair HC.out h' e5 (by omega); clear e5; have n_H := Aside0.mk h'; clear H h'; have H := n_H; clear n_H; have n_HC := Aside0.mk c'; clear HC c'; have HC := n_HC; clear n_HC)
              | (go_at_call 11; (with_reducible refine (at_refuse_t H.out HS.out.off _ _ htx (by omega)).mono ?_); rintro e w7 ⟨rfl, L6, h', e6⟩; have c' := at_pair HC.out h' e6 (by omega); clear e6; have n_H := Aside0.mk h'; clear H h'; have H := n_H; clear n_H; have n_HC := Aside0.mk c'; clear HC c'; have HC := n_HC; clear n_HC)
              | (go_at_call 20; (with_reducible refine (pending_calls H.out.many H.out.disk H.out.hi).mono ?_); rintro e w' ⟨rfl, rfl⟩)
              | (go_at_call 20; (with_reducible refine (pending_calls HC.out.many HC.out.disk HC.out.hi).mono ?_); rintro e w' ⟨rfl, rfl⟩))
            clear hout htx
            go_loopw [15] (fun v15 W => ∃ i : Nat, i ≤ 4 ∧ v15 = .int .i64 i ∧ Aside0 (At w1.heap.size L6 8 0 g s 4 (k + 1 + 1) w1 W) ∧ Aside0 (At w1.heap.size L6 8 4 g2 s 4 k w1 W)) (fun v15 _ => 4 - (intOf v15).toNat)
            case atStart => exact ⟨0, Nat.zero_le _, rfl, H, HC⟩
            case round =>
              clear H HC
              obtain ⟨i, hi, rfl, H, HC⟩ := hrel
              by_cases hlt : i < 4
              · have q1 : ((i : Int) < 4) = True := eq_true (by omega)
                have q2 : (i < 4) = True := eq_true hlt
                go_wp2_with (first
                  | (go_at_call 17; (with_reducible refine (read_ok H.out HS.out.off i hlt).mono ?_); rintro e w' ⟨rfl, rfl⟩)
                  | (go_at_call 17; (with_reducible refine (read_ok HC.out HS.out.off i hlt).mono ?_); rintro e w' ⟨rfl, rfl⟩))
                exact ⟨⟨i + 1, by omega, by go_num, H, HC⟩, by simp [intOf]; omega⟩
              · have q1 : ((i : Int) < 4) = False := eq_false (by omega)
                clear hlt hi
                go_wp2_with (first
                  | (go_at_call 15; (with_reducible refine (crash_nil H.out).mono ?_); rintro e w8 ⟨rfl, L7, h', e7⟩; rw [E1.out] at h'; have c' := at_pair HC.out h' e7 (by omega); clear e7; have n_H := Aside0.mk h'; clear H h'; have H := n_H; clear n_H; have n_HC := Aside0.mk c'; clear HC c'; have HC := n_HC; clear n_HC)
                  | (go_at_call 15; (with_reducible refine (crash_nil HC.out).mono ?_); rintro e w9 ⟨rfl, L8, c', e8⟩; rw [E1.out] at c'; have h' := at_pair H.out c' e8 (by omega); clear e8; have n_H := Aside0.mk h'; clear H h'; have H := n_H; clear n_H; have n_HC := Aside0.mk c'; clear HC c'; have HC := n_HC; clear n_HC)
                  | (go_at_call 12; (with_reducible refine (FX _).mono ?_); rintro e w10 ⟨rfl, hb⟩; have h' := H.out.below hb; have c' := HC.out.below hb; clear hb; have n_H := Aside0.mk h'; clear H h'; have H := n_H; clear n_H; have n_HC := Aside0.mk c'; clear HC c'; have HC := n_HC; clear n_HC)
                  | (go_at_call 11; (with_reducible refine (at_write_off H.out S1.out _ _ (by omega)).mono ?_); rintro e w11 ⟨rfl, L9, h', e9⟩; have c' := at_pair HC.out h' e9 (by omega); clear e9; have n_H := Aside0.mk h'; clear H h'; have H := n_H; clear n_H; have n_HC := Aside0.mk c'; clear HC c'; have HC := n_HC; clear n_HC)
                  | (go_at_call 13; (with_reducible refine (at_flush_off H.out S1.out).mono ?_); rintro e w12 ⟨rfl, L10, h', e10⟩; have c' := at_pair HC.out h' e10 (by omega); clear e10; have n_H := Aside0.mk h'; clear H h'; have H := n_H; clear n_H; have n_HC := Aside0.mk c'; clear HC c'; have HC := n_HC; clear n_HC)
                  | (go_at_call 16; (with_reducible refine (at_on H.out).mono ?_); rintro e w13 ⟨rfl, L11, h', e11⟩; rw [E2.out] at h'; have c' := at_pair HC.out h' e11 (by omega); clear e11; have n_H := Aside0.mk h'; clear H h'; have H := n_H; clear n_H; have n_HC := Aside0.mk c'; clear HC c'; have HC := n_HC; clear n_HC)
                  | (go_at_call 16; (with_reducible refine (at_on HC.out).mono ?_); rintro e w14 ⟨rfl, L12, c', e12⟩; rw [E2.out] at c'; have h' := at_pair H.out c' e12 (by omega); clear e12; have n_H := Aside0.mk h'; clear H h'; have H := n_H; clear n_H; have n_HC := Aside0.mk c'; clear HC c'; have HC := n_HC; clear n_HC))
                clear q1
                go_loopw [20] (fun v20 W => ∃ i : Nat, i ≤ 4 ∧ v20 = .int .i64 i ∧ Aside0 (At w1.heap.size L12 8 0 g s2 4 (k + 1 + 1 + 1) w1 W) ∧ Aside0 (At w1.heap.size L12 8 4 g2 s2 4 k w1 W)) (fun v20 _ => 4 - (intOf v20).toNat)
                case atStart => exact ⟨0, Nat.zero_le _, rfl, H, HC⟩
                case round =>
                  clear H HC
                  obtain ⟨i, hi, rfl, H, HC⟩ := hrel
                  by_cases hlt : i < 4
                  · have q1 : ((i : Int) < 4) = True := eq_true (by omega)
                    have q2 : (i < 4) = True := eq_true hlt
                    go_wp2_with (first
                      | (go_at_call 17; (with_reducible refine (read_ok H.out S2.out.off i hlt).mono ?_); rintro e w' ⟨rfl, rfl⟩)
                      | (go_at_call 17; (with_reducible refine (read_ok HC.out S2.out.off i hlt).mono ?_); rintro e w' ⟨rfl, rfl⟩))
                    exact ⟨⟨i + 1, by omega, by go_num, H, HC⟩, by simp [intOf]; omega⟩
                  · have q1 : ((i : Int) < 4) = False := eq_false (by omega)
                    go_wp2
                    go_ret
                    exact ⟨rfl, below_then D0.out D0.out.size H.out.bel⟩
      · have n0 : (0 ≤ n) = False := eq_false h0
        have n0' : (n ≥ 0) = False := eq_false h0
        have hout : ¬ (0 ≤ n ∧ n < ((4 : Nat) : Int)) := by omega
        clear h0
        by_cases ht : tx.size = 512
        · have t0 : (tx.size = 512) = True := eq_true ht
          have t1 : ((tx.size : Int) = 512) = True := eq_true (by omega)
          have t2 : ((tx.size : Int) == 512) = true := by simp [ht]
          go_upto_region 21 with (fail)
          have htx : (tx ++ ⟨#[120]⟩).size ≠ 512 := by rw [ByteArray.size_append, ht]; decide
          go_wp2_with (first
            | (go_at_call 17; (with_reducible refine (read_refuse H.out HS.out.off _ hout).mono ?_); rintro e w' ⟨rfl, rfl⟩)
            | (go_at_call 12; (with_reducible refine (FX _).mono ?_); rintro e w5 ⟨rfl, hb⟩; have h' := H.out.below hb; have c' := HC.out.below hb; clear hb; have n_H := Aside0.mk h'; clear H h'; have H := n_H; clear n_H; have n_HC := Aside0.mk c'; clear HC c'; have HC := n_HC; clear n_HC)
            | (go_at_call 11; (with_reducible refine (at_refuse_n H.out HS.out.off _ _ hout (by omega)).mono ?_); rintro e w6 ⟨rfl, L5, h', e5⟩; have c' := at_pair HC.out h' e5 (by omega); clear e5; have n_H := Aside0.mk h'; clear H h'; have H := n_H; clear n_H; have n_HC := Aside0.mk c'; clear HC c'; have HC := n_HC; clear n_HC)
            | (go_at_call 11; (with_reducible refine (at_refuse_t H.out HS.out.off _ _ htx (by omega)).mono ?_); rintro e w7 ⟨rfl, L6, h', e6⟩; have c' := at_pair HC.out h' e6 (by omega); clear e6; have n_H := Aside0.mk h'; clear H h'; have H := n_H; clear n_H; have n_HC := Aside0.mk c'; clear HC c'; have HC := n_HC; clear n_HC)
            | (go_at_call 20; (with_reducible refine (pending_calls H.out.many H.out.disk H.out.hi).mono ?_); rintro e w' ⟨rfl, rfl⟩)
            | (go_at_call 20; (with_reducible refine (pending_calls HC.out.many HC.out.disk HC.out.hi).mono ?_); rintro e w' ⟨rfl, rfl⟩))
          clear hout htx
          go_loopw [15] (fun v15 W => ∃ i : Nat, i ≤ 4 ∧ v15 = .int .i64 i ∧ Aside0 (At w1.heap.size L6 8 0 g s 4 (k + 1 + 1) w1 W) ∧ Aside0 (At w1.heap.size L6 8 4 g2 s 4 k w1 W)) (fun v15 _ => 4 - (intOf v15).toNat)
          case atStart => exact ⟨0, Nat.zero_le _, rfl, H, HC⟩
          case round =>
            clear H HC
            obtain ⟨i, hi, rfl, H, HC⟩ := hrel
            by_cases hlt : i < 4
            · have q1 : ((i : Int) < 4) = True := eq_true (by omega)
              have q2 : (i < 4) = True := eq_true hlt
              go_wp2_with (first
                | (go_at_call 17; (with_reducible refine (read_ok H.out HS.out.off i hlt).mono ?_); rintro e w' ⟨rfl, rfl⟩)
                | (go_at_call 17; (with_reducible refine (read_ok HC.out HS.out.off i hlt).mono ?_); rintro e w' ⟨rfl, rfl⟩))
              exact ⟨⟨i + 1, by omega, by go_num, H, HC⟩, by simp [intOf]; omega⟩
            · have q1 : ((i : Int) < 4) = False := eq_false (by omega)
              clear hlt hi
              go_wp2_with (first
                | (go_at_call 15; (with_reducible refine (crash_nil H.out).mono ?_); rintro e w8 ⟨rfl, L7, h', e7⟩; rw [E1.out] at h'; have c' := at_pair HC.out h' e7 (by omega); clear e7; have n_H := Aside0.mk h'; clear H h'; have H := n_H; clear n_H; have n_HC := Aside0.mk c'; clear HC c'; have HC := n_HC; clear n_HC)
                | (go_at_call 15; (with_reducible refine (crash_nil HC.out).mono ?_); rintro e w9 ⟨rfl, L8, c', e8⟩; rw [E1.out] at c'; have h' := at_pair H.out c' e8 (by omega); clear e8; have n_H := Aside0.mk h'; clear H h'; have H := n_H; clear n_H; have n_HC := Aside0.mk c'; clear HC c'; have HC := n_HC; clear n_HC)
                | (go_at_call 12; (with_reducible refine (FX _).mono ?_); rintro e w10 ⟨rfl, hb⟩; have h' := H.out.below hb; have c' := HC.out.below hb; clear hb; have n_H := Aside0.mk h'; clear H h'; have H := n_H; clear n_H; have n_HC := Aside0.mk c'; clear HC c'; have HC := n_HC; clear n_HC)
                | (go_at_call 11; (with_reducible refine (at_write_off H.out S1.out _ _ (by omega)).mono ?_); rintro e w11 ⟨rfl, L9, h', e9⟩; have c' := at_pair HC.out h' e9 (by omega); clear e9; have n_H := Aside0.mk h'; clear H h'; have H := n_H; clear n_H; have n_HC := Aside0.mk c'; clear HC c'; have HC := n_HC; clear n_HC)
                | (go_at_call 13; (with_reducible refine (at_flush_off H.out S1.out).mono ?_); rintro e w12 ⟨rfl, L10, h', e10⟩; have c' := at_pair HC.out h' e10 (by omega); clear e10; have n_H := Aside0.mk h'; clear H h'; have H := n_H; clear n_H; have n_HC := Aside0.mk c'; clear HC c'; have HC := n_HC; clear n_HC)
                | (go_at_call 16; (with_reducible refine (at_on H.out).mono ?_); rintro e w13 ⟨rfl, L11, h', e11⟩; rw [E2.out] at h'; have c' := at_pair HC.out h' e11 (by omega); clear e11; have n_H := Aside0.mk h'; clear H h'; have H := n_H; clear n_H; have n_HC := Aside0.mk c'; clear HC c'; have HC := n_HC; clear n_HC)
                | (go_at_call 16; (with_reducible refine (at_on HC.out).mono ?_); rintro e w14 ⟨rfl, L12, c', e12⟩; rw [E2.out] at c'; have h' := at_pair H.out c' e12 (by omega); clear e12; have n_H := Aside0.mk h'; clear H h'; have H := n_H; clear n_H; have n_HC := Aside0.mk c'; clear HC c'; have HC := n_HC; clear n_HC))
              clear q1
              go_loopw [20] (fun v20 W => ∃ i : Nat, i ≤ 4 ∧ v20 = .int .i64 i ∧ Aside0 (At w1.heap.size L12 8 0 g s2 4 (k + 1 + 1 + 1) w1 W) ∧ Aside0 (At w1.heap.size L12 8 4 g2 s2 4 k w1 W)) (fun v20 _ => 4 - (intOf v20).toNat)
              case atStart => exact ⟨0, Nat.zero_le _, rfl, H, HC⟩
              case round =>
                clear H HC
                obtain ⟨i, hi, rfl, H, HC⟩ := hrel
                by_cases hlt : i < 4
                · have q1 : ((i : Int) < 4) = True := eq_true (by omega)
                  have q2 : (i < 4) = True := eq_true hlt
                  go_wp2_with (first
                    | (go_at_call 17; (with_reducible refine (read_ok H.out S2.out.off i hlt).mono ?_); rintro e w' ⟨rfl, rfl⟩)
                    | (go_at_call 17; (with_reducible refine (read_ok HC.out S2.out.off i hlt).mono ?_); rintro e w' ⟨rfl, rfl⟩))
                  exact ⟨⟨i + 1, by omega, by go_num, H, HC⟩, by simp [intOf]; omega⟩
                · have q1 : ((i : Int) < 4) = False := eq_false (by omega)
                  go_wp2
                  go_ret
                  exact ⟨rfl, below_then D0.out D0.out.size H.out.bel⟩
        · have t0 : (tx.size = 512) = False := eq_false ht
          have t1 : ((tx.size : Int) = 512) = False := eq_false (by omega)
          have t2 : ((tx.size : Int) == 512) = false := by simp; omega
          go_upto_region 21 with (fail)
          have htx : tx.size ≠ 512 := ht
          go_wp2_with (first
            | (go_at_call 17; (with_reducible refine (read_refuse H.out HS.out.off _ hout).mono ?_); rintro e w' ⟨rfl, rfl⟩)
            | (go_at_call 12; (with_reducible refine (FX _).mono ?_); rintro e w5 ⟨rfl, hb⟩; have h' := H.out.below hb; have c' := HC.out.below hb; clear hb; have n_H := Aside0.mk h'; clear H h'; have H := n_H; clear n_H; have n_HC := Aside0.mk c'; clear HC c'; have HC := n_HC; clear n_HC)
            | (go_at_call 11; (with_reducible refine (at_refuse_n H.out HS.out.off _ _ hout (by omega)).mono ?_); rintro e w6 ⟨rfl, L5, h', e5⟩; have c' := at_pair HC.out h' e5 (by omega); clear e5; have n_H := Aside0.mk h'; clear H h'; have H := n_H; clear n_H; have n_HC := Aside0.mk c'; clear HC c'; have HC := n_HC; clear n_HC)
            | (go_at_call 11; (with_reducible refine (at_refuse_t H.out HS.out.off _ _ htx (by omega)).mono ?_); rintro e w7 ⟨rfl, L6, h', e6⟩; have c' := at_pair HC.out h' e6 (by omega); clear e6; have n_H := Aside0.mk h'; clear H h'; have H := n_H; clear n_H; have n_HC := Aside0.mk c'; clear HC c'; have HC := n_HC; clear n_HC)
            | (go_at_call 20; (with_reducible refine (pending_calls H.out.many H.out.disk H.out.hi).mono ?_); rintro e w' ⟨rfl, rfl⟩)
            | (go_at_call 20; (with_reducible refine (pending_calls HC.out.many HC.out.disk HC.out.hi).mono ?_); rintro e w' ⟨rfl, rfl⟩))
          clear hout htx
          go_loopw [15] (fun v15 W => ∃ i : Nat, i ≤ 4 ∧ v15 = .int .i64 i ∧ Aside0 (At w1.heap.size L6 8 0 g s 4 (k + 1 + 1) w1 W) ∧ Aside0 (At w1.heap.size L6 8 4 g2 s 4 k w1 W)) (fun v15 _ => 4 - (intOf v15).toNat)
          case atStart => exact ⟨0, Nat.zero_le _, rfl, H, HC⟩
          case round =>
            clear H HC
            obtain ⟨i, hi, rfl, H, HC⟩ := hrel
            by_cases hlt : i < 4
            · have q1 : ((i : Int) < 4) = True := eq_true (by omega)
              have q2 : (i < 4) = True := eq_true hlt
              go_wp2_with (first
                | (go_at_call 17; (with_reducible refine (read_ok H.out HS.out.off i hlt).mono ?_); rintro e w' ⟨rfl, rfl⟩)
                | (go_at_call 17; (with_reducible refine (read_ok HC.out HS.out.off i hlt).mono ?_); rintro e w' ⟨rfl, rfl⟩))
              exact ⟨⟨i + 1, by omega, by go_num, H, HC⟩, by simp [intOf]; omega⟩
            · have q1 : ((i : Int) < 4) = False := eq_false (by omega)
              clear hlt hi
              go_wp2_with (first
                | (go_at_call 15; (with_reducible refine (crash_nil H.out).mono ?_); rintro e w8 ⟨rfl, L7, h', e7⟩; rw [E1.out] at h'; have c' := at_pair HC.out h' e7 (by omega); clear e7; have n_H := Aside0.mk h'; clear H h'; have H := n_H; clear n_H; have n_HC := Aside0.mk c'; clear HC c'; have HC := n_HC; clear n_HC)
                | (go_at_call 15; (with_reducible refine (crash_nil HC.out).mono ?_); rintro e w9 ⟨rfl, L8, c', e8⟩; rw [E1.out] at c'; have h' := at_pair H.out c' e8 (by omega); clear e8; have n_H := Aside0.mk h'; clear H h'; have H := n_H; clear n_H; have n_HC := Aside0.mk c'; clear HC c'; have HC := n_HC; clear n_HC)
                | (go_at_call 12; (with_reducible refine (FX _).mono ?_); rintro e w10 ⟨rfl, hb⟩; have h' := H.out.below hb; have c' := HC.out.below hb; clear hb; have n_H := Aside0.mk h'; clear H h'; have H := n_H; clear n_H; have n_HC := Aside0.mk c'; clear HC c'; have HC := n_HC; clear n_HC)
                | (go_at_call 11; (with_reducible refine (at_write_off H.out S1.out _ _ (by omega)).mono ?_); rintro e w11 ⟨rfl, L9, h', e9⟩; have c' := at_pair HC.out h' e9 (by omega); clear e9; have n_H := Aside0.mk h'; clear H h'; have H := n_H; clear n_H; have n_HC := Aside0.mk c'; clear HC c'; have HC := n_HC; clear n_HC)
                | (go_at_call 13; (with_reducible refine (at_flush_off H.out S1.out).mono ?_); rintro e w12 ⟨rfl, L10, h', e10⟩; have c' := at_pair HC.out h' e10 (by omega); clear e10; have n_H := Aside0.mk h'; clear H h'; have H := n_H; clear n_H; have n_HC := Aside0.mk c'; clear HC c'; have HC := n_HC; clear n_HC)
                | (go_at_call 16; (with_reducible refine (at_on H.out).mono ?_); rintro e w13 ⟨rfl, L11, h', e11⟩; rw [E2.out] at h'; have c' := at_pair HC.out h' e11 (by omega); clear e11; have n_H := Aside0.mk h'; clear H h'; have H := n_H; clear n_H; have n_HC := Aside0.mk c'; clear HC c'; have HC := n_HC; clear n_HC)
                | (go_at_call 16; (with_reducible refine (at_on HC.out).mono ?_); rintro e w14 ⟨rfl, L12, c', e12⟩; rw [E2.out] at c'; have h' := at_pair H.out c' e12 (by omega); clear e12; have n_H := Aside0.mk h'; clear H h'; have H := n_H; clear n_H; have n_HC := Aside0.mk c'; clear HC c'; have HC := n_HC; clear n_HC))
              clear q1
              go_loopw [20] (fun v20 W => ∃ i : Nat, i ≤ 4 ∧ v20 = .int .i64 i ∧ Aside0 (At w1.heap.size L12 8 0 g s2 4 (k + 1 + 1 + 1) w1 W) ∧ Aside0 (At w1.heap.size L12 8 4 g2 s2 4 k w1 W)) (fun v20 _ => 4 - (intOf v20).toNat)
              case atStart => exact ⟨0, Nat.zero_le _, rfl, H, HC⟩
              case round =>
                clear H HC
                obtain ⟨i, hi, rfl, H, HC⟩ := hrel
                by_cases hlt : i < 4
                · have q1 : ((i : Int) < 4) = True := eq_true (by omega)
                  have q2 : (i < 4) = True := eq_true hlt
                  go_wp2_with (first
                    | (go_at_call 17; (with_reducible refine (read_ok H.out S2.out.off i hlt).mono ?_); rintro e w' ⟨rfl, rfl⟩)
                    | (go_at_call 17; (with_reducible refine (read_ok HC.out S2.out.off i hlt).mono ?_); rintro e w' ⟨rfl, rfl⟩))
                  exact ⟨⟨i + 1, by omega, by go_num, H, HC⟩, by simp [intOf]; omega⟩
                · have q1 : ((i : Int) < 4) = False := eq_false (by omega)
                  go_wp2
                  go_ret
                  exact ⟨rfl, below_then D0.out D0.out.size H.out.bel⟩
end Go.Proofs.Ytebhmbdblifddaa.Dk
