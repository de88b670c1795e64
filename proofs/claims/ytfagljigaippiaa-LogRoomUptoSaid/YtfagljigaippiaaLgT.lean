/- Chapter 7: LogTorn, walked. -/
import Derived.Test.YtfagljigaippiaaLgS
import Derived.Test.YtfagljigaippiaaXA
import Derived.Laws.BitsLemmas
namespace Go.Proofs.Ytfagljigaippiaa.Dk
open Go.RowKit Go.Maps Go.Proofs.Ytfagljigaippiaa.X Go.Proofs.YtfagljigaippiaaW.PrintWords Go.Proofs.YtfagljigaippiaaW.PrintLast Go.Proofs.YtfagljigaippiaaW.PrintMore
set_option linter.unusedVariables false
set_option linter.unusedSimpArgs false

theorem and15 (n : Int) : bits .and .i64 n 15 = n % 16 := by
  have h15 : (BitVec.ofInt 64 15).toNat = 2 ^ 4 - 1 := by decide
  have key : (BitVec.ofInt 64 n &&& BitVec.ofInt 64 15).toNat = (n % ((2 ^ 64 : Nat) : Int)).toNat % 2 ^ 4 := by
    rw [BitVec.toNat_and, BitVec.toNat_ofInt, h15, Nat.and_two_pow_sub_one_eq_mod]
  show IntKind.i64.wrap ((BitVec.ofInt 64 n &&& BitVec.ofInt 64 15).toNat : Nat) = n % 16
  rw [key, IntKind.wrap_i64]
  omega
theorem xs_loop : ∀ d i : Nat, i + d = 512 → cofferlaw07_xs.l0 (d + 1) (List.replicate i (120 : Int) ++ List.replicate d 0) (i : Int) = some (F 120)
  | 0, i, h => by
    unfold cofferlaw07_xs.l0
    rw [if_neg (by omega), List.replicate_zero, List.append_nil, show i = 512 by omega]
    exact congrArg some (nums_rep 120 512)
  | d + 1, i, h => by
    have e : wrap64 ((i : Int) + 1) = ((i + 1 : Nat) : Int) := by unfold wrap64; omega
    have es : (List.replicate i (120 : Int) ++ List.replicate (d + 1) 0).set i 120 = List.replicate (i + 1) (120 : Int) ++ List.replicate d 0 := by
      rw [List.set_append_right _ _ (by rw [List.length_replicate]; omega), List.length_replicate, Nat.sub_self, List.replicate_succ, List.set_cons_zero, List.replicate_succ', List.append_assoc]; rfl
    unfold cofferlaw07_xs.l0
    rw [if_pos (by omega), if_pos (by omega), if_pos (by rw [List.length_append, List.length_replicate, List.length_replicate]; omega), Int.toNat_natCast, es, e]
    exact xs_loop d (i + 1) (by omega)
theorem xs_calls (w : World) : Calls Try.prog 24 #[] w fun e w' => e = .returned (.string (F 120)) ∧ Below w.heap.size w w' := by
  refine cofferlaw07_xs.calls 513 (F 120) w ?_
  unfold cofferlaw07_xs.f
  rw [if_pos (by decide)]
  exact xs_loop 512 0 rfl
/-- Another disk beside. -/
theorem at_new2 {base : Nat} {L : Nat → Sl} {N i g : Nat} {s : DS} {n m : Nat} {w0 w : World} (h : At base L N i g s n m w0 w) (k : Nat) (h1 : 1 ≤ k) (h2 : k ≤ 8192) : Calls Try.prog 8 #[.int .i64 (k : Int)] w fun e w' => ∃ g' L', e = .returned (.tuple #[.pointer (some ⟨g', 0, none⟩), .int .i64 0]) ∧ At base L' (N + 4) N g' (freshS k) k 0 w0 w' := by
  refine (new_calls k h1 h2 h.many h.base).mono ?_
  rintro e w' ⟨g', L', rfl, m1, d1, e1, b1⟩
  exact ⟨g', L', rfl, ⟨m1, d1, by omega, ok_fresh k, h.bel.trans b1, h.hb, h2, by omega⟩⟩
theorem flat_crash (l : List ByteArray) : (crashS (flat l) []).off = true ∧ onS (crashS (flat l) []) = flat l := ⟨rfl, rfl⟩
theorem x_facts : (F 120).size = 512 ∧ (F 120).data[0]? ≠ some 99 ∧ F 120 ≠ Z ∧ ∀ h : 0 < (F 120).size, ((((F 120)[0]'h).toNat : Nat) : Int) = 120 := by
  have hd : ∀ c : UInt8, (F c).data[0]? = some c := fun c => by
    show (List.replicate 512 c).toArray[0]? = some c
    rw [List.getElem?_toArray, List.getElem?_replicate, if_pos (by omega)]
  refine ⟨F_size 120, ?_, fun e => ?_, ?_⟩
  · rw [hd]; intro e; injection e with e; exact absurd e (by decide)
  · have h1 := hd 120
    rw [e, Z_F, hd 0] at h1
    injection h1 with h1
    exact absurd h1 (by decide)
  · intro h
    have e : (F 120).data[0]'h = 120 := (Array.getElem?_eq_some_iff.1 (hd 120)).2
    show ((((F 120).data[0]'h).toNat : Nat) : Int) = 120
    rw [e]; rfl
theorem wr_facts (x : ByteArray) (hx : x.size = 512) : (writeS (freshS 32) 0 x).1.off = false ∧ (writeS (freshS 32) 0 x).1.seen.getD 0 ByteArray.empty = x := by
  have e : writeS (freshS 32) 0 x = ({ freshS 32 with seen := (freshS 32).seen.set 0 x, pend := [(0, x)] }, 0) := by
    unfold writeS
    rw [if_neg (by show ¬ (false = true); decide), if_neg (fun hh => hh ⟨⟨by decide, by show (0 : Int) < ((List.replicate 32 Z).length : Int); rw [List.length_replicate]; decide⟩, hx⟩)]
    rfl
  rw [e]
  exact ⟨rfl, getD_set_eq _ _ _ (by show 0 < (List.replicate 32 Z).length; rw [List.length_replicate]; decide)⟩
/-- One write, committed: read back. -/
theorem one_commit (l : List ByteArray) (sz n k : Nat) (x : ByteArray) (hR : Rest l sz n) (h4 : 4 ≤ sz) (hk : sz + k < n) (hn : n ≤ 8192) (hx : x.size = 512) : commitS sz (flat l) false [((k : Int), x)] = (flat (cl l sz [((k : Int), x)]), false, 0) ∧ Rest (cl l sz [((k : Int), x)]) sz n ∧ (cl l sz [((k : Int), x)]).getD (sz + k) ByteArray.empty = x := by
  have hin : ∀ p ∈ [((k : Int), x)], (0 ≤ p.1 ∧ (sz : Int) + p.1 < n) ∧ p.2.size = 512 := fun p hp => by
    rw [List.mem_singleton.1 hp]
    exact ⟨⟨by show (0 : Int) ≤ k; omega, by show (sz : Int) + k < n; omega⟩, hx⟩
  refine ⟨commit_flat l sz _ (commitW_ok _ _ (by show 1 ≤ 125; decide) (by show 2 + 1 < _; rw [hR.len]; omega) (fun p hp => (hin p hp).2)) (homeW_ok _ sz _ (by rw [hR.len]; exact hn) (fun p hp => by rw [hR.len]; exact hin p hp)) (by rw [hR.len]; omega), rest_cl hR _ h4 (by omega) hn (fun p hp => (hin p hp).1), ?_⟩
  have e : wrap64 ((sz : Int) + (k : Int)) = ((sz + k : Nat) : Int) := by unfold wrap64; omega
  unfold cl
  rw [getD_set_ne _ _ _ _ (by omega)]
  show (done _ [(wrap64 ((sz : Int) + (k : Int)), x)]).getD (sz + k) ByteArray.empty = x
  rw [e]
  show (List.set _ (((sz + k : Nat) : Int).toNat) x).getD (sz + k) ByteArray.empty = x
  rw [Int.toNat_natCast, getD_set_eq _ _ _ (by rw [List.length_set, done_len, hR.len]; exact hk)]
theorem js_one (n sz k : Nat) (x : ByteArray) (h4 : 4 ≤ sz) (hk : sz + k < n) (hx : x.size = 512) : jS ((n : Int) - sz) sz [((k : Int), x)] = 0 := by
  have e : judgS ((n : Int) - sz) [] [((k : Int), x)] = true := by
    unfold judgS
    rw [if_neg (fun hh => ?_)]
    · rfl
    · rcases hh with hh | hh | hh | hh
      · have : (k : Int) < 0 := hh
        omega
      · have : (n : Int) - sz ≤ (k : Int) := hh
        omega
      · exact hh hx
      · cases hh
  unfold jS
  rw [e, if_neg (by decide), if_neg (by show ¬ sz < 2 + secs 1; have : secs 1 = 2 := rfl; omega)]
set_option maxHeartbeats 32000000 in
set_option maxRecDepth 100000 in
theorem torn_walk (tx : ByteArray) (sz0 oth : Int) (w : World) (htx : tx.size ≤ 1048576) : Calls Try.prog 5 #[.string tx, .int .i64 sz0, .int .i64 oth] w fun e w' => e = .returned (.bool true) ∧ Below w.heap.size w w' := by
  have hand := and15 sz0
  obtain ⟨q, hq⟩ : ∃ q : Nat, sz0 % 16 = q := ⟨(sz0 % 16).toNat, by omega⟩
  have hq15 : q ≤ 15 := by omega
  rw [hq] at hand
  obtain ⟨sz, hsz⟩ : ∃ sz : Nat, sz = 4 + q := ⟨_, rfl⟩
  have hw4 : wrap64 (4 + (q : Int)) = (sz : Int) := by rw [hsz]; unfold wrap64; omega
  have h4 : 4 ≤ sz := by omega
  have h19 : sz ≤ 19 := by omega
  clear hq hq15 hsz
  have CBT : ∀ W : World, Calls Try.prog 11 #[.string tx] W fun e w' => e = .returned (.string (blk tx)) ∧ Below W.heap.size W w' := fun W => block_calls tx htx W
  have HBS0 := blk_size tx
  generalize blk tx = bt at CBT HBS0
  have HBS := Aside0.mk HBS0
  obtain ⟨l0, hl0⟩ : ∃ l0, l0 = (List.replicate 32 Z).set 0 (noteS sm sz) := ⟨_, rfl⟩
  obtain ⟨fo1, fo2⟩ := fresh_open 32 sz h4 (by omega)
  rw [← hl0] at fo1 fo2
  obtain ⟨oc1, oc2, oc3⟩ := one_commit l0 sz 32 3 bt fo2 h4 (by omega) (by decide) HBS0
  obtain ⟨l1, hl1⟩ : ∃ l1, l1 = cl l0 sz [((3 : Nat), bt)] := ⟨_, rfl⟩
  rw [← hl1] at oc1 oc2 oc3
  have HF1 := Aside0.mk fo1
  have HR0 := Aside0.mk fo2
  have HC1 := Aside0.mk oc1
  have HR1 := Aside0.mk oc2
  have HBT := Aside0.mk oc3
  clear fo1 fo2 oc1 oc2 oc3 hl0 hl1 HBS0
  go_enter Try.func5, Try.ntmps5
  go_upto_region 4 with (go_at_call 7; (with_reducible refine (first_calls _).mono ?_); rintro e w1 ⟨rfl, hb⟩; have D0 := Aside0.mk hb; clear hb)
  try rw [hw4]
  clear hand hw4
  have CN : Calls Try.prog 8 #[.int .i64 32] w1 fun e w' => ∃ g L', e = .returned (.tuple #[.pointer (some ⟨g, 0, none⟩), .int .i64 0]) ∧ At w1.heap.size L' 4 0 g (freshS 32) 32 0 w1 w' := at_new (n := 32) w1 (by decide) (by decide)
  go_upto_region 7 with (go_at_call 8; (with_reducible refine CN.mono ?_); rintro e w2 ⟨g, L2, rfl, h2⟩; have H2 := Aside0.mk h2; clear h2)
  clear CN
  have CO := open_fresh H2.out rfl sz h4 (by omega) (by show (List.replicate 32 Z).getD 0 _ = Z; rfl) (flat l0) HF1.out (rest_quiet HR0.out (by decide)) (by decide)
  go_upto_region 8 with (go_at_call 9; (with_reducible refine CO.mono ?_); rintro e w3 ⟨gl, L3, rfl, h3, _⟩; have H3 := Aside0.mk h3; clear h3)
  clear CO H2
  go_upto_region 10 with (first
    | (go_at_call 11; (with_reducible refine (CBT _).mono ?_); rintro e w4 ⟨rfl, hb⟩; have H4 := Aside0.mk (H3.out.below hb); clear hb; have C13 : Calls Try.prog 13 #[.pointer (some ⟨gl, 0, none⟩), .slice (some ⟨w4.heap.size, 0, none⟩) 1 1] (w4.alloc (.cells #[.int .i64 3, .string bt] 35)) (fun r w' => r = .returned (.int .i64 (commitS sz (flat l0) false [((3 : Nat), bt)]).2.2) ∧ ∃ L', Lg w1.heap.size L' (4 + 1) 0 g 4 gl (commitS sz (flat l0) false [((3 : Nat), bt)]).1 32 (0 + 1 + 2 * 1 + 3) sz (commitS sz (flat l0) false [((3 : Nat), bt)]).2.1 w1 w' ∧ Elj L3 L' 0 4) := commit_lit H4.out rfl [((3 : Nat), bt)] (by show 0 < 1; decide) (by show 1 ≤ 100; decide) (by omega) (fun p hp => by rw [List.mem_singleton.1 hp]; exact wf_lit 3 (by decide) (by decide)) (js_one 32 sz 3 bt h4 (by omega) HBS.out) (els_log _) (by show 0 + 1 + 2 * 1 + 10 ≤ 549755813887; decide); rw [HC1.out] at C13)
    | (go_at_call 13; (with_reducible refine C13.mono ?_); rintro e w5' ⟨rfl, L5', h5', _⟩; have H5' := Aside0.mk h5'; clear h5' C13))
  clear H3 H4
  go_upto_region 13 with (go_at_call 19; (with_reducible refine (at_copy H5'.out.at_).mono ?_); rintro e w5 ⟨g2, L5, rfl, _, hc, _⟩; have HC : Aside0 (At w1.heap.size L5 9 5 g2 (flat l1) 32 6 w1 w5) := ⟨hc⟩; clear hc)
  clear H5'
  obtain ⟨mm, hmm⟩ : ∃ mm, mm = 6 := ⟨_, rfl⟩
  rw [← hmm] at HC
  clear hmm
  by_cases ho : oth < 4
  · have p1 : (oth < 4) = True := eq_true ho
    have CA := open_arg HC.out rfl oth (.inl ho)
    go_upto_region 17 with (go_at_call 9; (with_reducible refine CA.mono ?_); rintro e w' ⟨rfl, hw⟩; obtain rfl := hw.symm)
    clear CA p1 ho
    have C20 : Calls Try.prog 20 #[.pointer (some ⟨g2, 0, none⟩), .slice none 0 0] w5 fun e w' => e = .returned (.tuple #[]) ∧ ∃ L', At w1.heap.size L' 9 5 g2 (crashS (flat l1) []) 32 mm w1 w' ∧ Else L5 L' 5 := at_crash HC.out none 0 [] (C_nil _) (by decide) (fun a ha => by cases ha)
    go_upto_region 18 with (go_at_call 20; (with_reducible refine C20.mono ?_); rintro e w6 ⟨rfl, L6, h6, _⟩; have H6 := Aside0.mk h6; clear h6)
    clear C20 HC
    have CO1 := open_off H6.out (flat_crash l1).1 (sz : Int)
    go_upto_region 21 with (go_at_call 9; (with_reducible refine CO1.mono ?_); rintro e w' ⟨rfl, hw⟩; obtain rfl := hw.symm)
    clear CO1
    go_upto_region 22 with (go_at_call 21; (with_reducible refine (at_on H6.out).mono ?_); rintro e w7 ⟨rfl, L7, h7, _⟩; rw [(flat_crash l1).2] at h7; have H7 := Aside0.mk h7; clear h7)
    clear H6
    have CO2 := open_known H7.out (rest_quiet HR1.out (by decide)) sz h4 (by omega) (by omega) HR1.out.zero
    go_upto_region 25 with (go_at_call 9; (with_reducible refine CO2.mono ?_); rintro e w8 ⟨gl2, L8, rfl, h8, _⟩; have H8 := Aside0.mk h8; clear h8)
    clear CO2 H7
    have C22 : Calls Try.prog 22 #[.pointer (some ⟨gl2, 0, none⟩), .int .i64 3] w8 fun r w' => r = .returned (.tuple #[.string bt, .int .i64 0]) ∧ ∃ L', Lg w1.heap.size L' (9 + 1) 5 g2 9 gl2 (flat l1) 32 mm sz false w1 w' ∧ Elj L8 L' 5 9 := by
      have := lread_ok H8.out rfl (by omega) 3 (by omega)
      rw [show (flat l1).seen.getD (sz + 3) ByteArray.empty = bt from HBT.out] at this
      exact this
    go_upto_region 26 with (go_at_call 22; (with_reducible refine C22.mono ?_); rintro e w9 ⟨rfl, L9, h9, _⟩; have H9 := Aside0.mk h9; clear h9)
    clear C22 H8
    have CN2 : Calls Try.prog 8 #[.int .i64 32] w9 fun e w' => ∃ g' L', e = .returned (.tuple #[.pointer (some ⟨g', 0, none⟩), .int .i64 0]) ∧ At w1.heap.size L' (9 + 1 + 4) (9 + 1) g' (freshS 32) 32 0 w1 w' := at_new2 H9.out.at_ 32 (by decide) (by decide)
    go_upto_region 29 with (first
      | (go_at_call 8; (with_reducible refine CN2.mono ?_); rintro e w10 ⟨g3, L10, rfl, h10⟩; have H10 := Aside0.mk h10; clear h10)
      | (go_at_call 11; (with_reducible refine (CBT _).mono ?_); rintro e w11 ⟨rfl, hb⟩; have H11 := Aside0.mk (H10.out.below hb); clear hb))
    clear CN2 H9 H10
    have CX := fun (W : World) => xs_calls W
    obtain ⟨fx, hfx⟩ : ∃ fx, fx = F 120 := ⟨_, rfl⟩
    rw [← hfx] at CX
    have HFX := Aside0.mk hfx
    clear hfx
    go_upto_region 30 with (first
      | (go_at_call 24; (with_reducible refine (CX _).mono ?_); rintro e w12 ⟨rfl, hb⟩; have H12 := Aside0.mk (H11.out.below hb); clear hb)
      | (go_at_call 23; (with_reducible refine (at_write H12.out 0 fx (by decide)).mono ?_); rintro e w13 ⟨rfl, L13, h13, _⟩; have H13 := Aside0.mk h13; clear h13))
    clear H11 H12
    obtain ⟨hf1, hf2, hf3, hf4⟩ := x_facts
    rw [← HFX.out] at hf1 hf2 hf3
    replace hf4 : ∀ h : 0 < fx.size, (((fx[0]'h).toNat : Nat) : Int) = 120 := by rw [HFX.out]; exact hf4
    obtain ⟨s5, hs5⟩ : ∃ s5, s5 = (writeS (freshS 32) 0 fx).1 := ⟨_, rfl⟩
    rw [← hs5] at H13
    have hs6 : s5.off = false ∧ s5.seen.getD 0 ByteArray.empty = fx := by rw [hs5]; exact wr_facts fx hf1
    clear hs5
    have CO3 := open_torn H13.out hs6.1 sz h4 (by omega) fx hs6.2 hf1 hf2 hf3
    go_upto_region 31 with (go_at_call 9; (with_reducible refine CO3.mono ?_); rintro e w14 ⟨rfl, hb⟩; have H14 := Aside0.mk (H13.out.below hb); clear hb)
    clear CO3 H13
    have hrd := read_in hs6.1 0 (by rw [H14.out.ok.seen]; decide)
    rw [hs6.2] at hrd
    have CR := at_read H14.out 0 fx hrd
    clear hrd hs6 hf2 hf3
    have hbt0 : bt.size = 512 := HBS.out
    go_wp2_with (go_at_call 25; (with_reducible refine CR.mono ?_); rintro e w' ⟨rfl, hw⟩; obtain rfl := hw.symm)
    go_ret
    exact ⟨rfl, below_then D0.out D0.out.size H14.out.bel⟩
  · have p1 : (oth < 4) = False := eq_false ho
    by_cases ho2 : 31 < oth
    · have p2 : (31 < oth) = True := eq_true ho2
      have CA := open_arg HC.out rfl oth (.inr (by show ((32 : Nat) : Int) ≤ oth; omega))
      go_upto_region 17 with (go_at_call 9; (with_reducible refine CA.mono ?_); rintro e w' ⟨rfl, hw⟩; obtain rfl := hw.symm)
      clear CA p1 p2 ho ho2
      have C20 : Calls Try.prog 20 #[.pointer (some ⟨g2, 0, none⟩), .slice none 0 0] w5 fun e w' => e = .returned (.tuple #[]) ∧ ∃ L', At w1.heap.size L' 9 5 g2 (crashS (flat l1) []) 32 mm w1 w' ∧ Else L5 L' 5 := at_crash HC.out none 0 [] (C_nil _) (by decide) (fun a ha => by cases ha)
      go_upto_region 18 with (go_at_call 20; (with_reducible refine C20.mono ?_); rintro e w6 ⟨rfl, L6, h6, _⟩; have H6 := Aside0.mk h6; clear h6)
      clear C20 HC
      have CO1 := open_off H6.out (flat_crash l1).1 (sz : Int)
      go_upto_region 21 with (go_at_call 9; (with_reducible refine CO1.mono ?_); rintro e w' ⟨rfl, hw⟩; obtain rfl := hw.symm)
      clear CO1
      go_upto_region 22 with (go_at_call 21; (with_reducible refine (at_on H6.out).mono ?_); rintro e w7 ⟨rfl, L7, h7, _⟩; rw [(flat_crash l1).2] at h7; have H7 := Aside0.mk h7; clear h7)
      clear H6
      have CO2 := open_known H7.out (rest_quiet HR1.out (by decide)) sz h4 (by omega) (by omega) HR1.out.zero
      go_upto_region 25 with (go_at_call 9; (with_reducible refine CO2.mono ?_); rintro e w8 ⟨gl2, L8, rfl, h8, _⟩; have H8 := Aside0.mk h8; clear h8)
      clear CO2 H7
      have C22 : Calls Try.prog 22 #[.pointer (some ⟨gl2, 0, none⟩), .int .i64 3] w8 fun r w' => r = .returned (.tuple #[.string bt, .int .i64 0]) ∧ ∃ L', Lg w1.heap.size L' (9 + 1) 5 g2 9 gl2 (flat l1) 32 mm sz false w1 w' ∧ Elj L8 L' 5 9 := by
        have := lread_ok H8.out rfl (by omega) 3 (by omega)
        rw [show (flat l1).seen.getD (sz + 3) ByteArray.empty = bt from HBT.out] at this
        exact this
      go_upto_region 26 with (go_at_call 22; (with_reducible refine C22.mono ?_); rintro e w9 ⟨rfl, L9, h9, _⟩; have H9 := Aside0.mk h9; clear h9)
      clear C22 H8
      have CN2 : Calls Try.prog 8 #[.int .i64 32] w9 fun e w' => ∃ g' L', e = .returned (.tuple #[.pointer (some ⟨g', 0, none⟩), .int .i64 0]) ∧ At w1.heap.size L' (9 + 1 + 4) (9 + 1) g' (freshS 32) 32 0 w1 w' := at_new2 H9.out.at_ 32 (by decide) (by decide)
      go_upto_region 29 with (first
        | (go_at_call 8; (with_reducible refine CN2.mono ?_); rintro e w10 ⟨g3, L10, rfl, h10⟩; have H10 := Aside0.mk h10; clear h10)
        | (go_at_call 11; (with_reducible refine (CBT _).mono ?_); rintro e w11 ⟨rfl, hb⟩; have H11 := Aside0.mk (H10.out.below hb); clear hb))
      clear CN2 H9 H10
      have CX := fun (W : World) => xs_calls W
      obtain ⟨fx, hfx⟩ : ∃ fx, fx = F 120 := ⟨_, rfl⟩
      rw [← hfx] at CX
      have HFX := Aside0.mk hfx
      clear hfx
      go_upto_region 30 with (first
        | (go_at_call 24; (with_reducible refine (CX _).mono ?_); rintro e w12 ⟨rfl, hb⟩; have H12 := Aside0.mk (H11.out.below hb); clear hb)
        | (go_at_call 23; (with_reducible refine (at_write H12.out 0 fx (by decide)).mono ?_); rintro e w13 ⟨rfl, L13, h13, _⟩; have H13 := Aside0.mk h13; clear h13))
      clear H11 H12
      obtain ⟨hf1, hf2, hf3, hf4⟩ := x_facts
      rw [← HFX.out] at hf1 hf2 hf3
      replace hf4 : ∀ h : 0 < fx.size, (((fx[0]'h).toNat : Nat) : Int) = 120 := by rw [HFX.out]; exact hf4
      obtain ⟨s5, hs5⟩ : ∃ s5, s5 = (writeS (freshS 32) 0 fx).1 := ⟨_, rfl⟩
      rw [← hs5] at H13
      have hs6 : s5.off = false ∧ s5.seen.getD 0 ByteArray.empty = fx := by rw [hs5]; exact wr_facts fx hf1
      clear hs5
      have CO3 := open_torn H13.out hs6.1 sz h4 (by omega) fx hs6.2 hf1 hf2 hf3
      go_upto_region 31 with (go_at_call 9; (with_reducible refine CO3.mono ?_); rintro e w14 ⟨rfl, hb⟩; have H14 := Aside0.mk (H13.out.below hb); clear hb)
      clear CO3 H13
      have hrd := read_in hs6.1 0 (by rw [H14.out.ok.seen]; decide)
      rw [hs6.2] at hrd
      have CR := at_read H14.out 0 fx hrd
      clear hrd hs6 hf2 hf3
      have hbt0 : bt.size = 512 := HBS.out
      go_wp2_with (go_at_call 25; (with_reducible refine CR.mono ?_); rintro e w' ⟨rfl, hw⟩; obtain rfl := hw.symm)
      go_ret
      exact ⟨rfl, below_then D0.out D0.out.size H14.out.bel⟩
    · have p2 : (31 < oth) = False := eq_false ho2
      go_upto_region 17 with (fail)
      clear p1 p2 ho ho2
      have C20 : Calls Try.prog 20 #[.pointer (some ⟨g2, 0, none⟩), .slice none 0 0] w5 fun e w' => e = .returned (.tuple #[]) ∧ ∃ L', At w1.heap.size L' 9 5 g2 (crashS (flat l1) []) 32 mm w1 w' ∧ Else L5 L' 5 := at_crash HC.out none 0 [] (C_nil _) (by decide) (fun a ha => by cases ha)
      go_upto_region 18 with (go_at_call 20; (with_reducible refine C20.mono ?_); rintro e w6 ⟨rfl, L6, h6, _⟩; have H6 := Aside0.mk h6; clear h6)
      clear C20 HC
      have CO1 := open_off H6.out (flat_crash l1).1 (sz : Int)
      go_upto_region 21 with (go_at_call 9; (with_reducible refine CO1.mono ?_); rintro e w' ⟨rfl, hw⟩; obtain rfl := hw.symm)
      clear CO1
      go_upto_region 22 with (go_at_call 21; (with_reducible refine (at_on H6.out).mono ?_); rintro e w7 ⟨rfl, L7, h7, _⟩; rw [(flat_crash l1).2] at h7; have H7 := Aside0.mk h7; clear h7)
      clear H6
      have CO2 := open_known H7.out (rest_quiet HR1.out (by decide)) sz h4 (by omega) (by omega) HR1.out.zero
      go_upto_region 25 with (go_at_call 9; (with_reducible refine CO2.mono ?_); rintro e w8 ⟨gl2, L8, rfl, h8, _⟩; have H8 := Aside0.mk h8; clear h8)
      clear CO2 H7
      have C22 : Calls Try.prog 22 #[.pointer (some ⟨gl2, 0, none⟩), .int .i64 3] w8 fun r w' => r = .returned (.tuple #[.string bt, .int .i64 0]) ∧ ∃ L', Lg w1.heap.size L' (9 + 1) 5 g2 9 gl2 (flat l1) 32 mm sz false w1 w' ∧ Elj L8 L' 5 9 := by
        have := lread_ok H8.out rfl (by omega) 3 (by omega)
        rw [show (flat l1).seen.getD (sz + 3) ByteArray.empty = bt from HBT.out] at this
        exact this
      go_upto_region 26 with (go_at_call 22; (with_reducible refine C22.mono ?_); rintro e w9 ⟨rfl, L9, h9, _⟩; have H9 := Aside0.mk h9; clear h9)
      clear C22 H8
      have CN2 : Calls Try.prog 8 #[.int .i64 32] w9 fun e w' => ∃ g' L', e = .returned (.tuple #[.pointer (some ⟨g', 0, none⟩), .int .i64 0]) ∧ At w1.heap.size L' (9 + 1 + 4) (9 + 1) g' (freshS 32) 32 0 w1 w' := at_new2 H9.out.at_ 32 (by decide) (by decide)
      go_upto_region 29 with (first
        | (go_at_call 8; (with_reducible refine CN2.mono ?_); rintro e w10 ⟨g3, L10, rfl, h10⟩; have H10 := Aside0.mk h10; clear h10)
        | (go_at_call 11; (with_reducible refine (CBT _).mono ?_); rintro e w11 ⟨rfl, hb⟩; have H11 := Aside0.mk (H10.out.below hb); clear hb))
      clear CN2 H9 H10
      have CX := fun (W : World) => xs_calls W
      obtain ⟨fx, hfx⟩ : ∃ fx, fx = F 120 := ⟨_, rfl⟩
      rw [← hfx] at CX
      have HFX := Aside0.mk hfx
      clear hfx
      go_upto_region 30 with (first
        | (go_at_call 24; (with_reducible refine (CX _).mono ?_); rintro e w12 ⟨rfl, hb⟩; have H12 := Aside0.mk (H11.out.below hb); clear hb)
        | (go_at_call 23; (with_reducible refine (at_write H12.out 0 fx (by decide)).mono ?_); rintro e w13 ⟨rfl, L13, h13, _⟩; have H13 := Aside0.mk h13; clear h13))
      clear H11 H12
      obtain ⟨hf1, hf2, hf3, hf4⟩ := x_facts
      rw [← HFX.out] at hf1 hf2 hf3
      replace hf4 : ∀ h : 0 < fx.size, (((fx[0]'h).toNat : Nat) : Int) = 120 := by rw [HFX.out]; exact hf4
      obtain ⟨s5, hs5⟩ : ∃ s5, s5 = (writeS (freshS 32) 0 fx).1 := ⟨_, rfl⟩
      rw [← hs5] at H13
      have hs6 : s5.off = false ∧ s5.seen.getD 0 ByteArray.empty = fx := by rw [hs5]; exact wr_facts fx hf1
      clear hs5
      have CO3 := open_torn H13.out hs6.1 sz h4 (by omega) fx hs6.2 hf1 hf2 hf3
      go_upto_region 31 with (go_at_call 9; (with_reducible refine CO3.mono ?_); rintro e w14 ⟨rfl, hb⟩; have H14 := Aside0.mk (H13.out.below hb); clear hb)
      clear CO3 H13
      have hrd := read_in hs6.1 0 (by rw [H14.out.ok.seen]; decide)
      rw [hs6.2] at hrd
      have CR := at_read H14.out 0 fx hrd
      clear hrd hs6 hf2 hf3
      have hbt0 : bt.size = 512 := HBS.out
      go_wp2_with (go_at_call 25; (with_reducible refine CR.mono ?_); rintro e w' ⟨rfl, hw⟩; obtain rfl := hw.symm)
      go_ret
      exact ⟨rfl, below_then D0.out D0.out.size H14.out.bel⟩
end Go.Proofs.Ytfagljigaippiaa.Dk
