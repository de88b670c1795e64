/- Chapter 2: HashPieces, walked. -/
import Derived.Test.YtcmjpdfkacmogaaShaY
namespace Go.Proofs.Ytcmjpdfkacmogaa.Sha
open Go.RowKit Go.Proofs.Ytcmjpdfkacmogaa.X Go.Proofs.YtcmjpdfkacmogaaW.PrintWords Go.Proofs.YtcmjpdfkacmogaaW.PrintLast Go.Proofs.YtcmjpdfkacmogaaW.PrintMore
set_option linter.unusedVariables false
set_option linter.unusedSimpArgs false

def pc18.T18 : Bool × List (List Nat × List Nat) := (true, [([], []), ([0], [0]), ([], []), ([], []), ([2, 3], [2, 3]), ([4, 1], [4]), ([1, 5], [1, 5])])
def pc18.B18 : List Nat := [0, 1, 0, 0, 12, 31, 63]
theorem pc18.tab18 : rtab .any (opsOf Try.f6 18) = pc18.T18 := by kernel_rfl
theorem pc18.bits18 : waitsOk pc18.T18.2 pc18.B18 = true := by kernel_rfl
theorem ints_at {W : World} {A : Option Addr} {n : Nat} {xs : List Int} (h : Kd.C (Kd.int .i64) W A n xs) (j : Nat) (hj : j < n) : ∃ ad : Addr, A = some ad ∧ W.cell? (ad.add j) = some (.int .i64 (xs.getD j 0)) := by
  obtain ⟨h1, h2, h3⟩ := h
  obtain ⟨ad, rfl, h4⟩ := h3 (by omega)
  obtain ⟨c, hl, hk, hc⟩ := h4 j _ (List.getElem?_eq_getElem (show j < xs.length by omega))
  refine ⟨ad, rfl, ?_⟩
  have hc0 : c = [.int .i64 (xs[j]'(by omega))] := hk
  have := hc 0 _ (by rw [hc0]; rfl)
  rw [List.getD_eq_getElem?_getD, List.getElem?_eq_getElem (by omega)]
  have e : j * (Kd.int .i64).sz + 0 = j := by show j * 1 + 0 = j; omega
  rw [e] at this
  exact this
theorem sign200 (a : Int) : ∃ k : Nat, k < 200 ∧ ((∃ x : Int, a.tmod 200 = x ∧ (x < 0) = True ∧ wrap64 (-x) = (k : Int)) ∨ (∃ x : Int, a.tmod 200 = (k : Int) ∧ ((k : Int) < 0) = False ∧ x = 0)) := by
  have h1 := Int.tmod_lt_of_pos a (show (0 : Int) < 200 by decide)
  have h2 := Int.lt_tmod_of_pos a (show (0 : Int) < 200 by decide)
  by_cases h : 0 ≤ a.tmod 200
  · exact ⟨(a.tmod 200).toNat, by omega, .inr ⟨0, by omega, eq_false (by omega), rfl⟩⟩
  · exact ⟨(-(a.tmod 200)).toNat, by omega, .inl ⟨_, rfl, eq_true (by omega), by unfold wrap64; omega⟩⟩
theorem wrap_add (m e : Nat) (h : m + e ≤ 9223372036854775807) : wrap64 ((m : Int) + (e : Int)) = ((m + e : Nat) : Int) := by unfold wrap64; omega
theorem wrap_sub (n m : Nat) (h : m ≤ n) (hn : n ≤ 9223372036854775807) : wrap64 ((n : Int) - (m : Int)) = ((n - m : Nat) : Int) := by unfold wrap64; omega
theorem least (n m k : Nat) (h : m ≤ n) : ∃ e : Nat, m + e ≤ n ∧ ((((n - m : Nat) : Int) < (k : Int)) = True ∧ e = n - m ∨ (((n - m : Nat) : Int) < (k : Int)) = False ∧ e = k) := by
  by_cases hdk : n - m < k
  · exact ⟨n - m, by omega, .inl ⟨eq_true (by omega), rfl⟩⟩
  · exact ⟨k, by omega, .inr ⟨eq_false (by omega), rfl⟩⟩
theorem le62 {n : Nat} (h : n ≤ 140737488351232) : n ≤ 4611686018427387904 := by omega
theorem held_eq {g : Nat} {l t : List UInt8} {W : World} (e : l = t) (h : Held g l W) : Held g t W := e ▸ h
set_option maxHeartbeats 8000000 in
set_option maxRecDepth 100000 in
theorem pieces_walk (s : ByteArray) (t : Int) (A : Option Addr) (cp : Nat) (cs : List Int) (w : World) (hs : s.size ≤ 140737488351232) (hr : Kd.C (Kd.int .i64) w A cs.length cs) (hcp : cs.length ≤ cp) :
    Calls Try.prog 6 #[.string s, .int .i64 t, .slice A cs.length cp] w fun e w' => e = .returned (.bool true) ∧ Below w.heap.size w w' := by
  obtain ⟨r, hrs, HG⟩ := grown_calls s t
  obtain ⟨b, rfl, hl⟩ := tx_of r
  have hb47 : b.length ≤ 140737488351232 := by omega
  obtain ⟨TB, hTB⟩ : ∃ T, T = tx b := ⟨_, rfl⟩
  have hTBs : TB.size = b.length := by rw [hTB, tx_size]
  have HR := Aside0.mk hr
  have hn63 : cs.length ≤ 9223372036854775807 := hr.2.1
  have HB47 := Aside0.mk hb47
  rw [← hTB] at HG
  have HTB := Aside0.mk hTB
  obtain ⟨S0, hS0⟩ : ∃ S, S = sumF [] := ⟨_, rfl⟩
  have hS0l : S0.length = 32 := by rw [hS0]; exact sumF_len _
  have HS0 : ∀ W : World, Calls Try.prog 11 #[.string ⟨#[]⟩] W fun e w' => e = .returned (B32 S0) ∧ Below W.heap.size W w' := fun W => by rw [hS0]; exact sum_calls [] W (by decide)
  have HSW0 : ∀ (g : Nat) (W : World), Held g [] W → Calls Try.prog 15 #[.pointer (some ⟨g, 0, none⟩)] W fun e w' => e = .returned (B32 S0) ∧ Below W.heap.size W w' := fun g W h => by rw [hS0]; exact held_sum g _ W h
  clear hS0
  have heq0 := eq32 S0 S0 hS0l hS0l
  rw [decide_eq_true rfl] at heq0
  obtain ⟨V0, hB0⟩ : ∃ V, B32 S0 = .agg V := ⟨_, rfl⟩
  rw [hB0] at HS0 heq0 HSW0
  clear hr hTB hl hrs hs hB0 hS0l
  go_enter Try.func6, Try.ntmps6
  go_wp2_with (first
    | (go_at_call 9; (with_reducible refine (head_calls _).mono ?_); rintro e w1 ⟨rfl, hb⟩; have D0 := Aside0.mk hb; clear hb)
    | (go_at_call 10; (with_reducible refine (HG _).mono ?_); rintro e w2 ⟨rfl, hb⟩; have n_D0 := Aside0.mk (below_then D0.out D0.out.size hb); clear hb D0; have D0 := n_D0; clear n_D0)
    | (go_at_call 13; (with_reducible refine (held_new _).mono ?_); rintro e w3 ⟨g, rfl, hg, hh, hb⟩; have GG : Aside0 (w.heap.size ≤ g) := ⟨Nat.le_trans D0.out.size hg⟩; have HH := Aside0.mk hh; have n_D0 := Aside0.mk (below_then D0.out D0.out.size hb); clear hb hg hh D0; have D0 := n_D0; clear n_D0)
    | (go_at_call 15; (with_reducible refine (HSW0 g _ HH.out).mono ?_); rintro e w4 ⟨rfl, hb⟩; have n_HH : Aside0 (Held g [] w4) := ⟨blk_below HH.out hb⟩; have n_D0 := Aside0.mk (below_then D0.out D0.out.size hb); clear hb HH D0; have D0 := n_D0; have HH := n_HH; clear n_D0 n_HH)
    | (go_at_call 11; (with_reducible refine (HS0 _).mono ?_); rintro e w5 ⟨rfl, hb⟩; have n_HH : Aside0 (Held g [] w5) := ⟨blk_below HH.out hb⟩; have n_D0 := Aside0.mk (below_then D0.out D0.out.size hb); clear hb HH D0; have D0 := n_D0; have HH := n_HH; clear n_D0 n_HH))
  go_loopw [9, 10] (fun v9 v10 W => ∃ i m : Nat, i ≤ cs.length ∧ v10 = .int .i64 i ∧ m ≤ b.length ∧ v9 = .int .i64 m ∧ Aside0 (Held g (b.take m) W) ∧ Aside0 (Below w.heap.size w W)) (fun _ v10 _ => cs.length - (intOf v10).toNat)
  case atStart => exact ⟨0, 0, Nat.zero_le _, rfl, Nat.zero_le _, rfl, HH, D0⟩
  case round =>
    clear HH D0 HSW0 HS0 heq0
    obtain ⟨i, m, hi, rfl, hm, rfl, HH, D0⟩ := hrel
    by_cases hlt : i < cs.length
    · have q1 : ((i : Int) < (cs.length : Int)) = True := eq_true (by omega)
      have q2 : (cs.length ≤ i) = False := eq_false (by omega)
      obtain ⟨ad, rfl, hcell⟩ := ints_at (Kd.C_below HR.out D0.out) i hlt
      obtain ⟨a, ha⟩ : ∃ a, a = cs.getD i 0 := ⟨_, rfl⟩
      rw [← ha] at hcell
      clear ha
      obtain ⟨k, hk, hsign⟩ := sign200 a
      obtain ⟨e, hme, hmin⟩ := least b.length m k hm
      have hsub := wrap_sub b.length m hm (by omega)
      obtain ⟨d, hd⟩ : ∃ d, d = b.length - m := ⟨_, rfl⟩
      rw [← hd] at hmin hsub
      obtain ⟨m', hm'⟩ : ∃ m', m' = m + e := ⟨_, rfl⟩
      have hadd := wrap_add m e (Nat.le_trans hme (Nat.le_trans hb47 (by decide)))
      rw [← hm'] at hadd
      have hmm0 : m ≤ m' := by rw [hm']; exact Nat.le_add_right _ _
      have hmL0 : m' ≤ b.length := by rw [hm']; exact hme
      have hmm : (m ≤ m') = True := eq_true hmm0
      have hmm' : ((m : Int) ≤ (m' : Int)) = True := eq_true (Int.ofNat_le.2 hmm0)
      have hmL : (m' ≤ b.length) = True := eq_true hmL0
      have hmL' : ((m' : Int) ≤ (b.length : Int)) = True := eq_true (Int.ofNat_le.2 hmL0)
      obtain ⟨X, hX⟩ : ∃ X, X = TB.extract m m' := ⟨_, rfl⟩
      obtain ⟨Y, hY⟩ : ∃ Y, Y = TB.extract 0 m' := ⟨_, rfl⟩
      have hXt : X = tx ((b.drop m).take e) := by rw [hX, HTB.out, tx_ext, hm', Nat.add_sub_cancel_left]
      have hYt : Y = tx (b.take m') := by rw [hY, HTB.out, tx_upto]
      have htk : b.take m ++ (b.drop m).take e = b.take m' := by rw [hm', List.take_add]
      have HW : ∀ W : World, Held g (b.take m) W → Calls Try.prog 14 #[.pointer (some ⟨g, 0, none⟩), .string X] W fun e w' => e = .returned (.tuple #[]) ∧ Held g (b.take m') w' ∧ Own g W w' := fun W h => by
        have := held_write g (b.take m) ((b.drop m).take e) W h (le62 (by rw [List.length_take, List.length_drop]; exact Nat.le_trans (Nat.min_le_right _ _) (Nat.le_trans (Nat.sub_le _ _) HB47.out)))
        rw [htk, ← hXt] at this
        exact this
      have heq := eq32 (sumF (b.take m')) (sumF (b.take m')) (sumF_len _) (sumF_len _)
      rw [decide_eq_true rfl] at heq
      have HSW : ∀ W : World, Held g (b.take m') W → Calls Try.prog 15 #[.pointer (some ⟨g, 0, none⟩)] W fun e w' => e = .returned (B32 (sumF (b.take m'))) ∧ Below W.heap.size W w' := fun W h => held_sum g _ W h
      have HS : ∀ W : World, Calls Try.prog 11 #[.string Y] W fun e w' => e = .returned (B32 (sumF (b.take m'))) ∧ Below W.heap.size W w' := fun W => by rw [hYt]; exact sum_calls _ W (le62 (by rw [List.length_take]; exact Nat.le_trans (Nat.min_le_right _ _) HB47.out))
      obtain ⟨V, hB⟩ : ∃ V, B32 (sumF (b.take m')) = .agg V := ⟨_, rfl⟩
      rw [hB] at heq HSW HS
      have hX2 := hX.symm
      have hY2 := hY.symm
      have hm'b : m' ≤ b.length := hmL0
      clear hB hX hY hXt hYt htk hm' hme hd hm hmm0 hmL0
      have HMB := Aside0.mk hm'b
      clear hm'b
      rcases hsign with ⟨x, s1, s2, s3⟩ | ⟨x, s1, s2, s3⟩ <;> (rcases hmin with ⟨r1, r2⟩ | ⟨r1, r2⟩ <;> (
        subst r2
        go_upto_region 18 with (go_at_call 14; (with_reducible refine (HW _ HH.out).mono ?_); rintro e w6 ⟨rfl, hh, hb⟩; have n_HH := Aside0.mk hh; have n_D0 := Aside0.mk (D0.out.trans (hb.below _ GG.out D0.out.size)); clear hb hh HH D0; have D0 := n_D0; have HH := n_HH; clear n_D0 n_HH)
        refine start_ (n := 7) (S := fun _ => True) (ds := []) #[false, false, false, false, false, false, false] (by kernel_rfl) rfl rfl trivial (fun hHeld => ?_); refine with_tabW pc18.tab18 pc18.bits18 (fun HT_ HW_ => ?_)
        have n_HH : Aside0 (Held g (b.take m') _) := ⟨blk_drew HH.out⟩
        have n_D0 := Aside0.mk (below_drew1 D0.out)
        clear HH D0
        have HH := n_HH
        have D0 := n_D0
        clear n_HH n_D0
        generalize World.drew _ = wR at HH D0 hHeld ⊢
        refine pure_ (i := 0) (N := some 62) (v := ?_) (a' := ?_) #[true, false, false, false, false, false, false] rfl rfl (any_of HT_.out (by kernel_rfl)) (fun _ _ _ h => h) (Or.inl ⟨by rfl, ?_⟩) ?_ ?_
        rotate_left
        · intro w'
          go_simp
          with_reducible rfl
        rotate_left
        · simp only [Act.put, List.setIfInBounds_toArray, List.set_cons_zero, List.set_cons_succ, i64_w, i32_w]
          rfl
        refine pure_ (i := 2) (N := some 64) (v := ?_) (a' := ?_) #[true, false, true, false, false, false, false] rfl rfl (any_of HT_.out (by kernel_rfl)) (fun _ _ _ h => h) (Or.inl ⟨by rfl, ?_⟩) ?_ ?_
        rotate_left
        · intro w'
          go_simp
          with_reducible rfl
        rotate_left
        · simp only [Act.put, List.setIfInBounds_toArray, List.set_cons_zero, List.set_cons_succ, i64_w, i32_w]
          rfl
        refine pure_ (i := 3) (N := some 65) (v := ?_) (a' := ?_) #[true, false, true, true, false, false, false] rfl rfl (any_of HT_.out (by kernel_rfl)) (fun _ _ _ h => h) (Or.inl ⟨by rfl, ?_⟩) ?_ ?_
        rotate_left
        · intro w'
          go_simp
          with_reducible rfl
        rotate_left
        · simp only [Act.put, List.setIfInBounds_toArray, List.set_cons_zero, List.set_cons_succ, i64_w, i32_w]
          rfl
        refine pure_ (i := 4) (N := some 66) (v := ?_) (a' := ?_) #[true, false, true, true, true, false, false] rfl rfl (any_of HT_.out (by kernel_rfl)) (fun _ _ _ h => h) (Or.inl ⟨by rfl, ?_⟩) ?_ ?_
        rotate_left
        · intro w'
          go_simp
          with_reducible rfl
        rotate_left
        · simp only [Act.put, List.setIfInBounds_toArray, List.set_cons_zero, List.set_cons_succ, i64_w, i32_w]
          rfl
        refine one_ (i := 1) (N := some 63) #[true, true, true, true, true, false, false] rfl rfl (one_of HT_.out (by kernel_rfl)) (by decide) (fun K hK => ?_)
        refine goes_ Try.func15 (by kernel_rfl) rfl #[.pointer (some ⟨g, 0, none⟩)] (by rfl) rfl rfl (by (try simp only [List.map_toArray, List.map_cons, List.map_nil]); first | done | rfl) ?_
        with_reducible refine (HSW _ HH.out).mono ?_
        rintro e w7 ⟨rfl, hd⟩
        refine ⟨_, rfl, ?_⟩
        have n_HH : Aside0 (Held g (b.take m') _) := ⟨blk_below HH.out hd⟩
        have n_D0 := Aside0.mk (below_then D0.out D0.out.size hd)
        clear HH D0
        have HH := n_HH
        have D0 := n_D0
        clear n_HH n_D0
        clear hd
        refine hK.out _ _ trivial (fun hHeld => ?_)
        clear hK K
        refine norm_ (a' := ?_) ?_ ?_
        rotate_left
        · show Act.put _ (some 63) _ = _
          simp only [Act.put, List.setIfInBounds_toArray, List.set_cons_zero, List.set_cons_succ, i64_w, i32_w]
          rfl
        refine one_ (i := 5) (N := some 67) #[true, true, true, true, true, true, false] rfl rfl (one_of HT_.out (by kernel_rfl)) (by decide) (fun K hK => ?_)
        refine goes_ Try.func11 (by kernel_rfl) rfl #[.string Y] (by rfl) rfl rfl (by (try simp only [List.map_toArray, List.map_cons, List.map_nil]); first | done | rfl) ?_
        with_reducible refine (HS _).mono ?_
        rintro e w8 ⟨rfl, hd⟩
        refine ⟨_, rfl, ?_⟩
        have n_HH : Aside0 (Held g (b.take m') _) := ⟨blk_below HH.out hd⟩
        have n_D0 := Aside0.mk (below_then D0.out D0.out.size hd)
        clear HH D0
        have HH := n_HH
        have D0 := n_D0
        clear n_HH n_D0
        clear hd
        refine hK.out _ _ trivial (fun hHeld => ?_)
        clear hK K
        refine norm_ (a' := ?_) ?_ ?_
        rotate_left
        · show Act.put _ (some 67) _ = _
          simp only [Act.put, List.setIfInBounds_toArray, List.set_cons_zero, List.set_cons_succ, i64_w, i32_w]
          rfl
        refine pure_ (i := 6) (N := some 68) (v := ?_) (a' := ?_) #[true, true, true, true, true, true, true] rfl rfl (any_of HT_.out (by kernel_rfl)) (fun _ _ _ h => h) (Or.inl ⟨by rfl, ?_⟩) ?_ ?_
        rotate_left
        · intro w'
          go_simp
          with_reducible rfl
        rotate_left
        · simp only [Act.put, List.setIfInBounds_toArray, List.set_cons_zero, List.set_cons_succ, i64_w, i32_w]
          rfl
        refine done_ (done_of HT_.out (by kernel_rfl)) ?_
        go_wp2
        go_roundw
        case rel => exact ⟨i + 1, m', by omega, by go_num, HMB.out, congrArg (Value.int .i64) hadd, HH, D0⟩
        case measure => simp [intOf]; omega))
    · obtain rfl : i = cs.length := by omega
      have q1 : ((cs.length : Int) < (cs.length : Int)) = False := eq_false (by omega)
      obtain ⟨X, hX⟩ : ∃ X, X = TB.extract m b.length := ⟨_, rfl⟩
      have hXt : X = tx (b.drop m) := by
        have := tx_from b m
        rw [tx_size] at this
        rw [hX, HTB.out, this]
      have HW : ∀ W : World, Held g (b.take m) W → Calls Try.prog 14 #[.pointer (some ⟨g, 0, none⟩), .string X] W fun e w' => e = .returned (.tuple #[]) ∧ Held g b w' ∧ Own g W w' := fun W h => by
        have := held_write g (b.take m) (b.drop m) W h (le62 (by rw [List.length_drop]; exact Nat.le_trans (Nat.sub_le _ _) HB47.out))
        rw [List.take_append_drop, ← hXt] at this
        exact this
      have heq := eq32 (sumF b) (sumF b) (sumF_len _) (sumF_len _)
      rw [decide_eq_true rfl] at heq
      have HSW : ∀ W : World, Held g b W → Calls Try.prog 15 #[.pointer (some ⟨g, 0, none⟩)] W fun e w' => e = .returned (B32 (sumF b)) ∧ Below W.heap.size W w' := fun W h => held_sum g _ W h
      have HS : ∀ W : World, Calls Try.prog 11 #[.string TB] W fun e w' => e = .returned (B32 (sumF b)) ∧ Below W.heap.size W w' := fun W => by rw [HTB.out]; exact sum_calls _ W (le62 HB47.out)
      obtain ⟨V, hB⟩ : ∃ V, B32 (sumF b) = .agg V := ⟨_, rfl⟩
      rw [hB] at heq HSW HS
      have hX2 := hX.symm
      have hmL : (m ≤ b.length) = True := eq_true hm
      have hmL' : ((m : Int) ≤ (b.length : Int)) = True := eq_true (by omega)
      clear hB hX hXt
      go_wp2_with (first
        | (go_at_call 14; (with_reducible refine (HW _ HH.out).mono ?_); rintro e w6 ⟨rfl, hh, hb⟩; have n_HH := Aside0.mk hh; have n_D0 := Aside0.mk (D0.out.trans (hb.below _ GG.out D0.out.size)); clear hb hh HH D0; have D0 := n_D0; have HH := n_HH; clear n_D0 n_HH)
        | (go_at_call 15; (with_reducible refine (HSW _ HH.out).mono ?_); rintro e w7 ⟨rfl, hb⟩; have n_HH : Aside0 (Held g b w7) := ⟨blk_below HH.out hb⟩; have n_D0 := Aside0.mk (below_then D0.out D0.out.size hb); clear hb HH D0; have D0 := n_D0; have HH := n_HH; clear n_D0 n_HH)
        | (go_at_call 11; (with_reducible refine (HS _).mono ?_); rintro e w8 ⟨rfl, hb⟩; have n_HH : Aside0 (Held g b w8) := ⟨blk_below HH.out hb⟩; have n_D0 := Aside0.mk (below_then D0.out D0.out.size hb); clear hb HH D0; have D0 := n_D0; have HH := n_HH; clear n_D0 n_HH))
      go_ret
      exact ⟨rfl, D0.out⟩
end Go.Proofs.Ytcmjpdfkacmogaa.Sha
