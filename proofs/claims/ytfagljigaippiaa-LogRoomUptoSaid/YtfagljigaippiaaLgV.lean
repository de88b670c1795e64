/- Chapter 7: LogRoom, walked. -/
import Derived.Test.YtfagljigaippiaaLgU
namespace Go.Proofs.Ytfagljigaippiaa.Dk
open Go.RowKit Go.Maps Go.Proofs.Ytfagljigaippiaa.X Go.Proofs.YtfagljigaippiaaW.PrintWords Go.Proofs.YtfagljigaippiaaW.PrintLast Go.Proofs.YtfagljigaippiaaW.PrintMore
set_option linter.unusedVariables false
set_option linter.unusedSimpArgs false
def lrm.T17 : Bool × List (List Nat × List Nat) := (true, [([], []), ([], []), ([], []), ([2], [2]), ([1, 3], [1, 3]), ([], []), ([5], [5]), ([4, 6], [4, 6]), ([], []), ([], []), ([8, 9], [8, 9]), ([10], [10]), ([11], [11]), ([7, 12], [7, 12]), ([13], [13]), ([0, 14, 12], [0, 14]), ([15, 15, 0, 1, 2, 3, 4, 5, 6, 7, 8, 9, 10, 11, 12, 13, 14, 15], [0, 15])])
def lrm.B17 : List Nat := [0, 0, 0, 4, 14, 0, 32, 126, 0, 0, 768, 1792, 3840, 8190, 16382, 32767, 65535]
theorem lrm.tab17 : rtab .any (opsOf Try.f3 17) = lrm.T17 := by kernel_rfl
theorem lrm.bits17 : waitsOk lrm.T17.2 lrm.B17 = true := by kernel_rfl
theorem and1 (n : Int) : bits .and .i64 n 1 = n % 2 := by
  have h15 : (BitVec.ofInt 64 1).toNat = 2 ^ 1 - 1 := by decide
  have key : (BitVec.ofInt 64 n &&& BitVec.ofInt 64 1).toNat = (n % ((2 ^ 64 : Nat) : Int)).toNat % 2 ^ 1 := by
    rw [BitVec.toNat_and, BitVec.toNat_ofInt, h15, Nat.and_two_pow_sub_one_eq_mod]
  show IntKind.i64.wrap ((BitVec.ofInt 64 n &&& BitVec.ofInt 64 1).toNat : Nat) = n % 2
  rw [key, IntKind.wrap_i64]
  omega
theorem tm_small (i k : Nat) (n : Int) (h : (i : Int) + 3 * (k : Int) < n) : Int.tmod ((i : Int) + 3 * (k : Int)) n = (i : Int) + 3 * (k : Int) := Int.tmod_eq_of_lt (by omega) h
theorem em_small (i k : Nat) (n : Int) (h : (i : Int) + 3 * (k : Int) < n) : ((i : Int) + 3 * (k : Int)) % n = (i : Int) + 3 * (k : Int) := Int.emod_eq_of_lt (by omega) h
theorem wr_a (k : Nat) (h : k ≤ 100) : wrap64 (3 * (k : Int)) = 3 * (k : Int) := by unfold wrap64; omega
theorem wr_b (i k : Nat) (h : k ≤ 100) (h2 : i ≤ 100) : wrap64 ((i : Int) + 3 * (k : Int)) = (i : Int) + 3 * (k : Int) := by unfold wrap64; omega
theorem wr_c (z : Nat) (h : z ≤ 100) : wrap64 (100 - (z : Int)) = 100 - (z : Int) := by unfold wrap64; omega
theorem text_of {W : World} {A : Option Addr} {n : Nat} {xs : List ByteArray} (h : Kd.C Kd.string W A n xs) (j : Nat) (x : ByteArray) (hj : xs[j]? = some x) : ∃ ad : Addr, A = some ad ∧ W.cell? (ad.add j) = some (.string x) := by
  have hjl := (List.getElem?_eq_some_iff.1 hj).1
  obtain ⟨h1, _, h3⟩ := h
  obtain ⟨ad, e, h4⟩ := h3 (by omega)
  obtain ⟨cs, hc, hk, hcell⟩ := h4 j _ hj
  have e2 : cs = [.string x] := hk
  subst e2
  have := hcell 0 _ rfl
  rw [show j * Kd.string.sz + 0 = j from Nat.mul_one j] at this
  exact ⟨ad, e, this⟩
/-- Writes of one text, at numbers that rise by b. -/
def ap (a b : Nat) (x : ByteArray) (n : Nat) : List (Int × ByteArray) := (List.range n).map fun k => (((a + b * k : Nat) : Int), x)
theorem ap_len (a b : Nat) (x : ByteArray) (n : Nat) : (ap a b x n).length = n := by unfold ap; rw [List.length_map, List.length_range]
theorem ap_succ (a b : Nat) (x : ByteArray) (n : Nat) : ap a b x (n + 1) = ap a b x n ++ [(((a + b * n : Nat) : Int), x)] := by
  unfold ap
  rw [List.range_succ, List.map_append]; rfl
theorem ap_get (a b : Nat) (x : ByteArray) (n i : Nat) (p : Int × ByteArray) (h : (ap a b x n)[i]? = some p) : i < n ∧ p = (((a + b * i : Nat) : Int), x) := by
  unfold ap at h
  rw [List.getElem?_map] at h
  obtain ⟨q, hq, rfl⟩ := Option.map_eq_some_iff.1 h
  obtain ⟨h1, h2⟩ := List.getElem?_eq_some_iff.1 hq
  rw [List.length_range] at h1
  rw [List.getElem_range] at h2
  subst h2
  exact ⟨h1, rfl⟩
theorem ap_mem (a b : Nat) (x : ByteArray) (n : Nat) (p : Int × ByteArray) (h : p ∈ ap a b x n) : ∃ i, i < n ∧ p = (((a + b * i : Nat) : Int), x) := by
  obtain ⟨i, hi⟩ := List.getElem?_of_mem h
  exact ⟨i, ap_get a b x n i p hi⟩
theorem ap_dist (a b : Nat) (x : ByteArray) (n : Nat) (hb : 1 ≤ b) : ∀ (i j : Nat) (p q : Int × ByteArray), j < i → (ap a b x n)[i]? = some p → (ap a b x n)[j]? = some q → q.1 ≠ p.1 := fun i j p q hji hp hq e => by
  obtain ⟨_, rfl⟩ := ap_get _ _ _ _ _ _ hp
  obtain ⟨_, rfl⟩ := ap_get _ _ _ _ _ _ hq
  have e' : ((a + b * j : Nat) : Int) = ((a + b * i : Nat) : Int) := e
  have e2 : a + b * j = a + b * i := by exact_mod_cast e'
  have e3 : b * j = b * i := by omega
  have := Nat.eq_of_mul_eq_mul_left (by omega : 0 < b) e3
  omega
theorem judg_true (nb : Int) : ∀ (ws : List (Int × ByteArray)) (seen : List Int), (∀ p ∈ ws, (0 ≤ p.1 ∧ p.1 < nb ∧ p.2.size = 512) ∧ p.1 ∉ seen) → List.Pairwise (fun q p : Int × ByteArray => q.1 ≠ p.1) ws → judgS nb seen ws = true
  | [], _, _, _ => rfl
  | p :: ps, seen, h, hp => by
    obtain ⟨⟨h1, h2, h3⟩, h4⟩ := h p (.head _)
    rw [judgS, if_neg (by intro hh; rcases hh with e | e | e | e <;> first | omega | exact e h3 | exact h4 e)]
    obtain ⟨hp1, hp2⟩ := List.pairwise_cons.1 hp
    refine judg_true nb ps _ (fun q hq => ⟨(h q (.tail _ hq)).1, fun e => ?_⟩) hp2
    rcases List.mem_append.1 e with e | e
    · exact (h q (.tail _ hq)).2 e
    · exact hp1 q hq (List.mem_singleton.1 e).symm
theorem ap_judg (nb : Int) (a b : Nat) (x : ByteArray) (n : Nat) (hb : 1 ≤ b) (hx : x.size = 512) (hn : ∀ i, i < n → ((a + b * i : Nat) : Int) < nb) : judgS nb [] (ap a b x n) = true := by
  refine judg_true nb _ [] (fun p hp => ⟨?_, fun h => by cases h⟩) (List.pairwise_iff_getElem.2 fun i j hi hj hij => ap_dist a b x n hb j i _ _ hij (List.getElem?_eq_getElem hj) (List.getElem?_eq_getElem hi))
  obtain ⟨i, hi, rfl⟩ := ap_mem _ _ _ _ _ hp
  exact ⟨by show (0 : Int) ≤ ((a + b * i : Nat) : Int); omega, hn i hi, hx⟩
theorem ap_wf (a b : Nat) (x : ByteArray) (n : Nat) (h : ∀ i, i < n → a + b * i ≤ 1000000) : ∀ p ∈ ap a b x n, (Lit.int .i64 p.1).wf = true := fun p hp => by
  obtain ⟨i, hi, rfl⟩ := ap_mem _ _ _ _ _ hp
  exact wf_lit _ (by show (0 : Int) ≤ ((a + b * i : Nat) : Int); omega) (by have := h i hi; show ((a + b * i : Nat) : Int) ≤ 1000000; omega)
/-- A commit of a log at rest, of (size - 2) / 2 writes. -/
theorem room_ok (l : List ByteArray) (sz nb i K : Nat) (x : ByteArray) (hR : Rest l sz 100) (hnb : nb + sz = 100) (h4 : 4 ≤ sz) (h35 : sz ≤ 35) (hi : i ≤ 11) (hK : K = (sz - 2) / 2) (hx : x.size = 512) :
    commitS sz (flat l) false (ap i 3 x K) = (flat (cl l sz (ap i 3 x K)), false, 0) ∧ Rest (cl l sz (ap i 3 x K)) sz 100 ∧ jS (((100 : Nat) : Int) - sz) sz (ap i 3 x K) = 0 := by
  have hin : ∀ p ∈ ap i 3 x K, (0 ≤ p.1 ∧ (sz : Int) + p.1 < ((100 : Nat) : Int)) ∧ p.2.size = 512 := fun p hp => by
    obtain ⟨k, hk, rfl⟩ := ap_mem _ _ _ _ _ hp
    exact ⟨⟨by show (0 : Int) ≤ ((i + 3 * k : Nat) : Int); omega, by show (sz : Int) + ((i + 3 * k : Nat) : Int) < ((100 : Nat) : Int); omega⟩, hx⟩
  have hl := ap_len i 3 x K
  refine ⟨commit_flat l sz _ (commitW_ok _ _ (by rw [hl]; omega) (by rw [hl, hR.len]; omega) (fun p hp => (hin p hp).2)) (homeW_ok _ sz _ (by rw [hR.len]; decide) (fun p hp => by rw [hR.len]; exact hin p hp)) (by rw [hR.len]; decide), rest_cl hR _ h4 (by omega) (by decide) (fun p hp => (hin p hp).1), ?_⟩
  unfold jS
  rw [ap_judg _ i 3 x K (by decide) hx (fun k hk => by omega), if_neg (by decide), if_neg (by rw [hl]; unfold secs; omega)]
/-- Too many writes. -/
theorem room_full (sz nb : Nat) (x : ByteArray) (hnb : nb + sz = 100) (h35 : sz ≤ 35) (hx : x.size = 512) : jS (((100 : Nat) : Int) - sz) sz (ap 0 1 x (sz + 1)) = 41 := by
  unfold jS
  rw [ap_judg _ 0 1 x _ (by decide) hx (fun k hk => by omega), if_neg (by decide), if_pos (by rw [ap_len]; unfold secs; omega)]
theorem els_more {L L' : Nat → Sl} {N N' i j : Nat} (h : Els L N i j) (e : ∀ t, t < N → (t < i ∨ i + 4 ≤ t) → t ≠ j → L' t = L t) (h2 : ∀ t, N ≤ t → t < N' → t ≠ j → (L' t).e = 35 ∨ (L' t).e = 9) : Els L' N' i j := fun t ht h1 h3 => by
  by_cases hN : t < N
  · rw [e t hN h1 h3]; exact h t hN h1 h3
  · rcases h2 t (by omega) ht h3 with h | h <;> rw [h] <;> decide
set_option maxHeartbeats 32000000 in
set_option maxRecDepth 100000 in
theorem room_walk (sz0 : Int) (A : Option Addr) (c : Nat) (ts : List ByteArray) (w : World) (hp : Kd.C Kd.string w A ts.length ts) (hl : ts.length ≤ 1048576) (hg : ∀ x ∈ ts, x.size ≤ 1048576) :
    Calls Try.prog 3 #[.int .i64 sz0, .slice A ts.length c] w fun e w' => e = .returned (.bool true) ∧ Below w.heap.size w w' := by
  have hand := and31 sz0
  obtain ⟨q, hq⟩ : ∃ q : Nat, sz0 % 32 = q := ⟨(sz0 % 32).toNat, by omega⟩
  have hq15 : q ≤ 31 := by omega
  rw [hq] at hand
  obtain ⟨sz, hsz⟩ : ∃ sz : Nat, sz = 4 + q := ⟨_, rfl⟩
  have hw4 : wrap64 (4 + (q : Int)) = (sz : Int) := by rw [hsz]; unfold wrap64; omega
  have h4 : 4 ≤ sz := by omega
  have h35 : sz ≤ 35 := by omega
  clear hq hq15 hsz
  obtain ⟨nb, hnb⟩ : ∃ nb : Nat, nb + sz = 100 := ⟨100 - sz, by omega⟩
  obtain ⟨K, hK⟩ : ∃ K : Nat, K = (sz - 2) / 2 := ⟨_, rfl⟩
  have HK := Aside0.mk hK
  have hK1 : 1 ≤ K := by omega
  have hK16 : K ≤ 16 := by omega
  clear hK
  have HP := Aside0.mk hp
  have HG := Aside0.mk hg
  clear hp hg
  obtain ⟨l0, hl0⟩ : ∃ l0, l0 = (List.replicate 100 Z).set 0 (noteS sm sz) := ⟨_, rfl⟩
  obtain ⟨fo1, fo2⟩ := fresh_open 100 sz h4 (by omega)
  rw [← hl0] at fo1 fo2
  have HF1 := Aside0.mk fo1
  have HR0 := Aside0.mk fo2
  clear fo1 fo2 hl0
  go_enter Try.func3, Try.ntmps3
  go_upto_region 4 with (go_at_call 7; (with_reducible refine (first_calls _).mono ?_); rintro e w1 ⟨rfl, hb⟩; have D0 := Aside0.mk hb; have HT := Aside0.mk (Kd.C_below HP.out hb); clear hb HP)
  try rw [hw4]
  clear hand hw4
  have CN : Calls Try.prog 8 #[.int .i64 100] w1 fun e w' => ∃ g L', e = .returned (.tuple #[.pointer (some ⟨g, 0, none⟩), .int .i64 0]) ∧ At w1.heap.size L' 4 0 g (freshS 100) 100 0 w1 w' := at_new (n := 100) w1 (by decide) (by decide)
  go_upto_region 7 with (go_at_call 8; (with_reducible refine CN.mono ?_); rintro e w2 ⟨g, L2, rfl, h2⟩; have H2 := Aside0.mk h2; clear h2)
  clear CN
  have CO := open_fresh H2.out rfl sz h4 (by omega) (by show (List.replicate 100 Z).getD 0 _ = Z; rfl) (flat l0) HF1.out (rest_quiet HR0.out (by decide)) (by decide)
  go_upto_region 8 with (go_at_call 9; (with_reducible refine CO.mono ?_); rintro e w3 ⟨gl, L3, rfl, h3, _⟩; have H3 := Aside0.mk h3; clear h3)
  clear CO H2
  have CB := blocks_calls H3.out (by omega)
  rw [show ((100 : Nat) : Int) - (sz : Int) = 100 - (sz : Int) from rfl] at CB
  go_upto_region 10 with (go_at_call 10; (with_reducible refine CB.mono ?_); rintro e w4 ⟨rfl, hb⟩; have H4 := Aside0.mk (H3.out.below hb); clear hb)
  clear CB H3
  have CBM := fun (W : World) => block_calls ⟨#[109, 97, 110, 121]⟩ (by decide) W
  obtain ⟨mb, hmb⟩ : ∃ mb, mb = blk ⟨#[109, 97, 110, 121]⟩ := ⟨_, rfl⟩
  rw [← hmb] at CBM
  have HMB : Aside0 (mb.size = 512) := ⟨by rw [hmb]; exact blk_size _⟩
  clear hmb
  go_wp2
  go_loopw [7, 8] (fun v7 v8 W => ∃ (i N j gl : Nat) (L : Nat → Sl) (l : List ByteArray), i ≤ 12 ∧ i ≤ ts.length ∧ v8 = .int .i64 i ∧ v7 = .pointer (some ⟨gl, 0, none⟩) ∧ Aside0 (Lg w1.heap.size L N 0 g j gl (flat l) 100 (200 * i + 1) sz false w1 W) ∧ Aside0 (Rest l sz 100) ∧ Aside0 (Els L N 0 j)) (fun v7 v8 _ => 12 - (intOf v8).toNat)
  case atStart => exact ⟨0, 5, 4, gl, L3, l0, by decide, Nat.zero_le _, rfl, rfl, H4, HR0, ⟨els_log _⟩⟩
  case round =>
    clear H4 HR0 HF1
    obtain ⟨i, N, j, gl, L, l, hi, hil, rfl, rfl, H, HR, HE⟩ := hrel
    by_cases hlt : i < ts.length ∧ i < 12
    · obtain ⟨hlt, h12⟩ := hlt
      have q1 : ((i : Int) < (ts.length : Int)) = True := eq_true (by omega)
      have q2 : (i < ts.length) = True := eq_true hlt
      have q3 : (ts.length ≤ i) = False := eq_false (by omega)
      have q4 : ((i : Int) < 12) = True := eq_true (by omega)
      have q5 : (i < 12) = True := eq_true h12
      obtain ⟨tx, htk⟩ : ∃ tx, ts[i]? = some tx := ⟨_, List.getElem?_eq_getElem hlt⟩
      have htx := HG.out tx (List.mem_of_getElem? htk)
      obtain ⟨ad, rfl, hc0⟩ := text_of HT.out i tx htk
      have HC0 := Aside0.mk hc0
      clear hc0 htk
      have CBT : ∀ W : World, Calls Try.prog 11 #[.string tx] W fun e w' => e = .returned (.string (blk tx)) ∧ Below W.heap.size W w' := fun W => block_calls tx htx W
      have HBS0 := blk_size tx
      generalize blk tx = bt at CBT HBS0
      have HBS := Aside0.mk HBS0
      clear HBS0 htx
      have hj := H.out.hj
      have ap := H.out.ap
      have hN4 := H.out.at_.hi
      obtain ⟨ok1, ok2, ok3⟩ := room_ok l sz nb i K bt HR.out hnb h4 h35 (by omega) HK.out HBS.out
      obtain ⟨l1, hl1⟩ : ∃ l1, l1 = cl l sz (Dk.ap i 3 bt K) := ⟨_, rfl⟩
      rw [← hl1] at ok1 ok2
      have OK1 := Aside0.mk ok1
      have OK2 := Aside0.mk ok2
      have OK3 := Aside0.mk ok3
      clear ok1 ok2 ok3 hl1
      have H0 := Aside0.mk (H.out.add (wsl 35 (.slice none 0 0) []) (Below.refl _ _) (World.ownsRow_nil _ w1.heap.size 35 2) (fun k hk => by simp [wsl, Value.ownBlock] at hk))
      have HN0 : Aside0 (upd L N (wsl 35 (.slice none 0 0) []) N = wsl 35 (.slice none 0 0) []) := ⟨upd_at _ _ _⟩
      have EL0 : Aside0 (∀ k, k < N → upd L N (wsl 35 (.slice none 0 0) []) k = L k) := ⟨fun k hk => upd_ne (by omega)⟩
      generalize upd L N (wsl 35 (.slice none 0 0) []) = L0 at H0 HN0 EL0
      clear H
      go_wp2
      go_loopw [9, 10] (fun v9 v10 W => ∃ (k : Nat) (L1 : Nat → Sl) (A1 : Option Addr) (c1 : Nat), k ≤ K ∧ v10 = .int .i64 k ∧ v9 = .slice A1 k c1 ∧ Aside0 (Lg w1.heap.size L1 (N + 1) 0 g j gl (flat l) 100 (200 * i + 1) sz false w1 W) ∧ Aside0 (L1 N = ⟨.slice A1 k c1, 35, 2, k, wcs (Dk.ap i 3 bt k)⟩) ∧ Aside0 (∀ q, q < N → L1 q = L q)) (fun v9 v10 _ => K - (intOf v10).toNat)
      case atStart => exact ⟨0, L0, none, 0, Nat.zero_le _, rfl, rfl, H0, HN0, EL0⟩
      case round =>
        clear H0 HN0 EL0
        obtain ⟨k, L1, A1, c1, hk, rfl, rfl, H, HN, EL⟩ := hrel
        by_cases hkK : k < K
        · have q6 : ((k : Int) < ((sz : Int) - 2) / 2) = True := eq_true (by have := HK.out; omega)
          have q6' : (((sz : Int) - 2) / 2 ≤ (k : Int)) = False := eq_false (by have := HK.out; omega)
          go_upto_region 17 with (fail)
          clear q6 q6'
          have HC := Aside0.mk (below_cell' H.out.at_.bel HC0.out)
          have m3 : Int.tmod ((i : Int) + 3 * (k : Int)) (100 - (sz : Int)) = (i : Int) + 3 * (k : Int) := tm_small i k _ (by omega)
          have m4 : ((i : Int) + 3 * (k : Int)) % (100 - (sz : Int)) = (i : Int) + 3 * (k : Int) := em_small i k _ (by omega)
          have m5 : (100 - (sz : Int) = 0) = False := eq_false (by omega)
          refine start_ (n := 17) (S := fun W => Below wr.heap.size wr W) (ds := [15]) #[false, false, false, false, false, false, false, false, false, false, false, false, false, false, false, false, false] (by kernel_rfl) rfl rfl (below_drew1 (Below.refl _ _)) (fun hHeld => ?_); refine with_tabW lrm.tab17 lrm.bits17 (fun HT_ HW_ => ?_)
          generalize World.drew _ = wR at hHeld ⊢
          refine pure_ (i := 0) (N := some 67) (v := ?_) (a' := ?_) #[true, false, false, false, false, false, false, false, false, false, false, false, false, false, false, false, false] rfl rfl (any_of HT_.out (by kernel_rfl)) (fun _ _ _ h => h) (Or.inl ⟨by rfl, ?_⟩) ?_ ?_
          rotate_left
          · intro w'
            go_simp
            with_reducible rfl
          rotate_left
          · simp only [Act.put, List.setIfInBounds_toArray, List.set_cons_zero, List.set_cons_succ, i64_w, i32_w]
            rfl
          refine pure_ (i := 1) (N := some 68) (v := ?_) (a' := ?_) #[true, true, false, false, false, false, false, false, false, false, false, false, false, false, false, false, false] rfl rfl (any_of HT_.out (by kernel_rfl)) (fun _ _ _ h => h) (Or.inl ⟨by rfl, ?_⟩) ?_ ?_
          rotate_left
          · intro w'
            go_simp
            with_reducible rfl
          rotate_left
          · simp only [Act.put, List.setIfInBounds_toArray, List.set_cons_zero, List.set_cons_succ, i64_w, i32_w]
            rfl
          refine pure_ (i := 2) (N := some 69) (v := ?_) (a' := ?_) #[true, true, true, false, false, false, false, false, false, false, false, false, false, false, false, false, false] rfl rfl (any_of HT_.out (by kernel_rfl)) (fun _ _ _ h => h) (Or.inl ⟨by rfl, ?_⟩) ?_ ?_
          rotate_left
          · intro w'
            go_simp
            with_reducible rfl
          rotate_left
          · simp only [Act.put, List.setIfInBounds_toArray, List.set_cons_zero, List.set_cons_succ, i64_w, i32_w]
            rfl
          refine pure_ (i := 3) (N := some 70) (v := ?_) (a' := ?_) #[true, true, true, true, false, false, false, false, false, false, false, false, false, false, false, false, false] rfl rfl (any_of HT_.out (by kernel_rfl)) (fun _ _ _ h => h) (Or.inl ⟨by rfl, ?_⟩) ?_ ?_
          rotate_left
          · intro w'
            go_simp
            with_reducible rfl
          rotate_left
          · simp only [Act.put, List.setIfInBounds_toArray, List.set_cons_zero, List.set_cons_succ, i64_w, i32_w]
            rfl
          refine pure_ (i := 4) (N := some 71) (v := ?_) (a' := ?_) #[true, true, true, true, true, false, false, false, false, false, false, false, false, false, false, false, false] rfl rfl (any_of HT_.out (by kernel_rfl)) (fun _ _ _ h => h) (Or.inl ⟨by rfl, ?_⟩) ?_ ?_
          rotate_left
          · intro w'
            go_simp
            with_reducible rfl
          rotate_left
          · simp only [Act.put, List.setIfInBounds_toArray, List.set_cons_zero, List.set_cons_succ, i64_w, i32_w]
            rfl
          refine pure_ (i := 5) (N := some 72) (v := ?_) (a' := ?_) #[true, true, true, true, true, true, false, false, false, false, false, false, false, false, false, false, false] rfl rfl (any_of HT_.out (by kernel_rfl)) (fun _ _ _ h => h) (Or.inl ⟨by rfl, ?_⟩) ?_ ?_
          rotate_left
          · intro w'
            go_simp
            with_reducible rfl
          rotate_left
          · simp only [Act.put, List.setIfInBounds_toArray, List.set_cons_zero, List.set_cons_succ, i64_w, i32_w]
            rfl
          refine pure_ (i := 6) (N := some 73) (v := ?_) (a' := ?_) #[true, true, true, true, true, true, true, false, false, false, false, false, false, false, false, false, false] rfl rfl (any_of HT_.out (by kernel_rfl)) (fun _ _ _ h => h) (Or.inl ⟨by rfl, ?_⟩) ?_ ?_
          rotate_left
          · intro w'
            go_simp
            with_reducible rfl
          rotate_left
          · simp only [Act.put, List.setIfInBounds_toArray, List.set_cons_zero, List.set_cons_succ, i64_w, i32_w]
            rfl
          refine pure_ (i := 7) (N := some 74) (v := ?_) (a' := ?_) #[true, true, true, true, true, true, true, true, false, false, false, false, false, false, false, false, false] rfl rfl (any_of HT_.out (by kernel_rfl)) (fun _ _ _ h => h) (Or.inl ⟨by rfl, ?_⟩) ?_ ?_
          rotate_left
          · intro w'
            have m6 := wr_a k (by omega)
            have m7 := wr_b i k (by omega) (by omega)
            have m8 := wr_c sz (by omega)
            go_simp
            with_reducible rfl
          rotate_left
          · simp only [Act.put, List.setIfInBounds_toArray, List.set_cons_zero, List.set_cons_succ, i64_w, i32_w]
            rfl
          refine pure_ (i := 8) (N := some 75) (v := ?_) (a' := ?_) #[true, true, true, true, true, true, true, true, true, false, false, false, false, false, false, false, false] rfl rfl (any_of HT_.out (by kernel_rfl)) (fun _ _ _ h => h) (Or.inl ⟨by rfl, ?_⟩) ?_ ?_
          rotate_left
          · intro w'
            go_simp
            with_reducible rfl
          rotate_left
          · simp only [Act.put, List.setIfInBounds_toArray, List.set_cons_zero, List.set_cons_succ, i64_w, i32_w]
            rfl
          refine pure_ (i := 9) (N := some 76) (v := ?_) (a' := ?_) #[true, true, true, true, true, true, true, true, true, true, false, false, false, false, false, false, false] rfl rfl (any_of HT_.out (by kernel_rfl)) (fun _ _ _ h => h) (Or.inl ⟨by rfl, ?_⟩) ?_ ?_
          rotate_left
          · intro w'
            go_simp
            with_reducible rfl
          rotate_left
          · simp only [Act.put, List.setIfInBounds_toArray, List.set_cons_zero, List.set_cons_succ, i64_w, i32_w]
            rfl
          refine pure_ (i := 10) (N := some 77) (v := ?_) (a' := ?_) #[true, true, true, true, true, true, true, true, true, true, true, false, false, false, false, false, false] rfl rfl (any_of HT_.out (by kernel_rfl)) (fun _ _ _ h => h) (Or.inl ⟨by rfl, ?_⟩) ?_ ?_
          rotate_left
          · intro w'
            go_simp
            with_reducible rfl
          rotate_left
          · simp only [Act.put, List.setIfInBounds_toArray, List.set_cons_zero, List.set_cons_succ, i64_w, i32_w]
            rfl
          refine take_ (i := 11) (N := some 78) (v := ?_) (a' := ?_) #[true, true, true, true, true, true, true, true, true, true, true, true, false, false, false, false, false] rfl rfl (take_ofW HT_.out HW_.out (by kernel_rfl)) (fun _ _ _ h => h) (Or.inl ⟨by rfl, ?_⟩) hHeld ?_ ?_
          rotate_left
          · rintro w' s0
            have hK := below_cell' s0 HC.out
            go_simp
            with_reducible rfl
          rotate_left
          · simp only [Act.put, List.setIfInBounds_toArray, List.set_cons_zero, List.set_cons_succ, i64_w, i32_w]
            rfl
          refine one_ (i := 12) (N := some 79) #[true, true, true, true, true, true, true, true, true, true, true, true, true, false, false, false, false] rfl rfl (one_of HT_.out (by kernel_rfl)) (by decide) (fun K hK => ?_)
          refine goes_ Try.func11 (by kernel_rfl) rfl #[.string tx] (by rfl) rfl rfl (by (try simp only [List.map_toArray, List.map_cons, List.map_nil]); first | done | rfl) ?_
          with_reducible refine (CBT _).mono ?_
          rintro e w_2 ⟨rfl, hb⟩
          refine ⟨_, rfl, ?_⟩
          have hb2 := below_then hHeld hHeld.size hb
          refine hK.out _ _ hb2 (fun hHeld => ?_)
          clear hK K
          refine norm_ (a' := ?_) ?_ ?_
          rotate_left
          · show Act.put _ (some 79) _ = _
            simp only [Act.put, List.setIfInBounds_toArray, List.set_cons_zero, List.set_cons_succ, i64_w, i32_w]
            rfl
          clear hb2 hb
          refine pure_ (i := 13) (N := some 80) (v := ?_) (a' := ?_) #[true, true, true, true, true, true, true, true, true, true, true, true, true, true, false, false, false] rfl rfl (any_of HT_.out (by kernel_rfl)) (fun _ _ _ h => h) (Or.inl ⟨by rfl, ?_⟩) ?_ ?_
          rotate_left
          · intro w'
            go_simp
            with_reducible rfl
          rotate_left
          · simp only [Act.put, List.setIfInBounds_toArray, List.set_cons_zero, List.set_cons_succ, i64_w, i32_w]
            rfl
          refine one_ (i := 14) (N := some 81) #[true, true, true, true, true, true, true, true, true, true, true, true, true, true, true, false, false] rfl rfl (one_of HT_.out (by kernel_rfl)) (by decide) (fun K hK => ?_)
          refine value_ (w1 := ?_) (v := ?_) (by rfl) rfl ?_ ?_
          rotate_left 2
          · go_simp
            constructor
            · rfl
            · rfl
          have HMR := H.out.below hHeld
          obtain ⟨v', w4, hr, M4, B4⟩ := many_grow 32 35 2 24 (.agg #[.int .i64 0, .string ByteArray.empty]) Try.underlying32 infoA rfl (by decide) (by decide) HMR.at_.many N (by omega) _ _ _ HN.out [.int .i64 ((i : Int) + 3 * (k : Int)), .string bt] rfl (fun q hq => by simp only [List.mem_cons, List.not_mem_nil, or_false] at hq; rcases hq with rfl | rfl <;> rfl) HMR.at_.bel HMR.at_.base (by omega)
          obtain ⟨A5, c5, e5, _⟩ := many_val M4 N (by omega)
          rw [upd_at] at e5
          obtain ⟨k5, hk5⟩ : ∃ k5, k5 = k + 1 := ⟨_, rfl⟩
          have e5' : v' = .slice A5 k5 c5 := by rw [hk5]; exact e5
          subst e5'
          refine hK.out _ _ (hHeld.alloc hHeld.size _) (fun hHeld => ?_)
          clear hK K
          refine norm_ (a' := ?_) ?_ ?_
          rotate_left
          · show Act.put _ (some 81) _ = _
            simp only [Act.put, List.setIfInBounds_toArray, List.set_cons_zero, List.set_cons_succ, i64_w, i32_w]
            rfl
          refine last_ (i := 15) (N := some 82) #[true, true, true, true, true, true, true, true, true, true, true, true, true, true, true, true, false] rfl rfl (one_of HT_.out (by kernel_rfl)) (by decide) (fun K hK => ?_)
          refine value_ (by rfl) rfl (exec_append (t := 32) (.tmp 67) (.tmp 81) rfl rfl _ _ rfl rfl hr) ?_
          refine hK.out _ _ ?_
          clear hK K
          refine norm_ (a' := ?_) ?_ ?_
          rotate_left
          · show Act.put _ (some 82) _ = _
            simp only [Act.put, List.setIfInBounds_toArray, List.set_cons_zero, List.set_cons_succ, i64_w, i32_w]
            rfl
          refine pure_ (i := 16) (N := some 9) (v := ?_) (a' := ?_) #[true, true, true, true, true, true, true, true, true, true, true, true, true, true, true, true, true] rfl rfl (any_of HT_.out (by kernel_rfl)) (fun _ _ _ h => h) (Or.inl ⟨by rfl, ?_⟩) ?_ ?_
          rotate_left
          · intro w'
            go_simp
            with_reducible rfl
          rotate_left
          · simp only [Act.put, List.setIfInBounds_toArray, List.set_cons_zero, List.set_cons_succ, i64_w, i32_w]
            rfl
          refine done_ (done_of HT_.out (by kernel_rfl)) ?_
          have H6 := Aside0.mk (HMR.put N (by omega) (by omega) _ M4 B4)
          have HN6 : Aside0 (upd L1 N ⟨.slice A5 k5 c5, 35, 2, k + 1, wcs (Dk.ap i 3 bt k) ++ [.int .i64 ((i : Int) + 3 * (k : Int)), .string bt]⟩ N = ⟨.slice A5 (k + 1) c5, 35, 2, k + 1, wcs (Dk.ap i 3 bt (k + 1))⟩) := ⟨by
            rw [upd_at, hk5, ap_succ, show (i : Int) + 3 * (k : Int) = ((i + 3 * k : Nat) : Int) by omega]
            unfold wcs
            rw [List.flatMap_append]
            simp [wc]⟩
          have EL6 : Aside0 (∀ q, q < N → upd L1 N ⟨.slice A5 k5 c5, 35, 2, k + 1, wcs (Dk.ap i 3 bt k) ++ [.int .i64 ((i : Int) + 3 * (k : Int)), .string bt]⟩ q = L q) := ⟨fun q hq => by rw [upd_ne (by omega)]; exact EL.out q hq⟩
          clear HMR M4 B4 hr
          go_wp2
          exact ⟨⟨k + 1, _, A5, c5, by omega, by go_num, (by first | rfl | rw [hk5]), H6, HN6, EL6⟩, by simp [intOf]; omega⟩
        · have q6 : ((k : Int) < ((sz : Int) - 2) / 2) = False := eq_false (by have := HK.out; omega)
          have q6' : (((sz : Int) - 2) / 2 ≤ (k : Int)) = True := eq_true (by have := HK.out; omega)
          obtain rfl : k = K := by omega
          have HE1 : Aside0 (Els L1 (N + 1) 0 j) := ⟨els_more HE.out (fun t ht _ _ => EL.out t ht) (fun t h1 h2 _ => .inl (by rw [show t = N by omega, HN.out]))⟩
          have HW : Aside0 (L1 N = wsl 35 (.slice A1 (Dk.ap i 3 bt k).length c1) (Dk.ap i 3 bt k)) := ⟨by rw [HN.out]; unfold wsl; rw [ap_len]⟩
          obtain ⟨A', c', e', hc'⟩ := many_val H.out.at_.many N (by omega)
          rw [HN.out] at e' hc'
          have hcc : k ≤ c1 := by injection e' with _ _ e3; rw [e3]; exact hc'
          clear e' hc'
          have hdi := ap_dist i 3 bt k (by decide)
          have hwf := ap_wf i 3 bt k (fun q hq => by omega)
          have hlen := ap_len i 3 bt k
          obtain ⟨ws, hws⟩ : ∃ ws, ws = Dk.ap i 3 bt k := ⟨_, rfl⟩
          rw [← hws] at hdi hwf hlen HW OK1 OK3
          have CD := distinct_calls ws (by omega) hdi A1 c1 wr (row_reads H.out.at_.many N (by omega) A1 c1 ws HW.out) (by omega)
          rw [hlen] at CD
          have HWF := Aside0.mk hwf
          have HLEN := Aside0.mk hlen
          clear hdi hwf hws hlen HN
          go_upto_region 20 with (first
            | (go_at_call 12; (with_reducible refine CD.mono ?_); rintro e w5 ⟨rfl, hb⟩; have H5 := Aside0.mk (H.out.below hb); clear hb; have CC := commit_main A1 c1 ws H5.out rfl (row_src N (by omega) (by omega) (by omega) A1 c1 ws HW.out) (by rw [HLEN.out]; omega) (by rw [HLEN.out]; omega) (by omega) HWF.out OK3.out HE1.out (by rw [HLEN.out]; omega); rw [HLEN.out, OK1.out] at CC)
            | (go_at_call 13; (with_reducible refine CC.mono ?_); rintro e w6 ⟨rfl, L6, h6, e6⟩; have H6 := Aside0.mk (h6 : Lg w1.heap.size L6 (N + 1) 0 g j gl (flat l1) 100 (200 * i + 1 + 2 * k + 3) sz false w1 w6); have E6 := Aside0.mk e6; clear h6 e6 CC))
          clear CD H H5 q6 q6'
          have H7 := Aside0.mk (H6.out.add (wsl 35 (.slice none 0 0) []) (Below.refl _ _) (World.ownsRow_nil _ w1.heap.size 35 2) (fun k hk => by simp [wsl, Value.ownBlock] at hk))
          have HN7 : Aside0 (upd L6 (N + 1) (wsl 35 (.slice none 0 0) []) (N + 1) = wsl 35 (.slice none 0 0) []) := ⟨upd_at _ _ _⟩
          have EL7 : Aside0 (∀ q, q < N + 1 → upd L6 (N + 1) (wsl 35 (.slice none 0 0) []) q = L6 q) := ⟨fun q hq => upd_ne (by omega)⟩
          generalize upd L6 (N + 1) (wsl 35 (.slice none 0 0) []) = L7 at H7 HN7 EL7
          clear H6
          go_wp2
          go_loopw [11, 12] (fun v11 v12 W => ∃ (q : Nat) (L8 : Nat → Sl) (A2 : Option Addr) (c2 : Nat), q ≤ sz + 1 ∧ v12 = .int .i64 q ∧ v11 = .slice A2 q c2 ∧ Aside0 (Lg w1.heap.size L8 (N + 1 + 1) 0 g j gl (flat l1) 100 (200 * i + 1 + 2 * k + 3) sz false w1 W) ∧ Aside0 (L8 (N + 1) = ⟨.slice A2 q c2, 35, 2, q, wcs (Dk.ap 0 1 mb q)⟩) ∧ Aside0 (∀ t, t < N + 1 → L8 t = L6 t)) (fun v11 v12 _ => sz + 1 - (intOf v12).toNat)
          case atStart => exact ⟨0, L7, none, 0, Nat.zero_le _, rfl, rfl, H7, HN7, EL7⟩
          case round =>
            clear H7 HN7 EL7
            obtain ⟨q, L8, A2, c2, hq, rfl, rfl, H, HN, EL7⟩ := hrel
            by_cases hqs : q ≤ sz
            · have q6 : ((q : Int) ≤ (sz : Int)) = True := eq_true (by omega)
              have q6' : ((sz : Int) < (q : Int)) = False := eq_false (by omega)
              go_upto_region 23 with (first
                | (go_at_call 11; (with_reducible refine (CBM _).mono ?_); rintro e w8 ⟨rfl, hb⟩; have H8 := Aside0.mk (H.out.below hb); clear hb; obtain ⟨v', w9, hr, M9, B9⟩ := many_grow 32 35 2 24 (.agg #[.int .i64 0, .string ByteArray.empty]) Try.underlying32 infoA rfl (by decide) (by decide) H8.out.at_.many (N + 1) (by omega) _ _ _ HN.out [.int .i64 (q : Int), .string mb] rfl (fun q hq => by simp only [List.mem_cons, List.not_mem_nil, or_false] at hq; rcases hq with rfl | rfl <;> rfl) H8.out.at_.bel H8.out.at_.base (by omega); obtain ⟨A5, c5, e5, _⟩ := many_val M9 (N + 1) (by omega); rw [upd_at] at e5; have e5' : v' = .slice A5 (q + 1) c5 := e5; subst e5'; have HGR := Aside0.mk hr; have H9 := Aside0.mk (H8.out.put (N + 1) (by omega) (by omega) _ M9 B9); clear hr M9 B9 e5)
                | ((with_reducible refine gate_dst (N := 101) rfl ?_); go_loud (refine Kd.event_run rfl (exec_append (t := 32) (.tmp 96) (.tmp 100) rfl rfl _ _ rfl rfl HGR.out) ?_)))
              have HN9 : Aside0 (upd L8 (N + 1) ⟨.slice A5 (q + 1) c5, 35, 2, q + 1, wcs (Dk.ap 0 1 mb q) ++ [.int .i64 (q : Int), .string mb]⟩ (N + 1) = ⟨.slice A5 (q + 1) c5, 35, 2, q + 1, wcs (Dk.ap 0 1 mb (q + 1))⟩) := ⟨by
                rw [upd_at, ap_succ, show (q : Int) = ((0 + 1 * q : Nat) : Int) by omega]
                unfold wcs
                rw [List.flatMap_append]
                simp [wc]⟩
              have EL9 : Aside0 (∀ t, t < N + 1 → upd L8 (N + 1) ⟨.slice A5 (q + 1) c5, 35, 2, q + 1, wcs (Dk.ap 0 1 mb q) ++ [.int .i64 (q : Int), .string mb]⟩ t = L6 t) := ⟨fun t ht => by rw [upd_ne (by omega)]; exact EL7.out t ht⟩
              generalize upd L8 (N + 1) ⟨.slice A5 (q + 1) c5, 35, 2, q + 1, wcs (Dk.ap 0 1 mb q) ++ [.int .i64 (q : Int), .string mb]⟩ = L9 at H9 HN9 EL9
              clear H H8 HN EL7 HGR
              go_wp2
              exact ⟨⟨q + 1, L9, A5, c5, by omega, by go_num, rfl, H9, HN9, EL9⟩, by simp [intOf]; omega⟩
            · have q6 : ((q : Int) ≤ (sz : Int)) = False := eq_false (by omega)
              have q6' : ((sz : Int) < (q : Int)) = True := eq_true (by omega)
              obtain rfl : q = sz + 1 := by omega
              have HM : Aside0 (L8 (N + 1) = wsl 35 (.slice A2 (Dk.ap 0 1 mb (sz + 1)).length c2) (Dk.ap 0 1 mb (sz + 1))) := ⟨by rw [HN.out]; unfold wsl; rw [ap_len]⟩
              have mwf := ap_wf 0 1 mb (sz + 1) (fun q hq => by omega)
              have mlen := ap_len 0 1 mb (sz + 1)
              have mj := room_full sz nb mb hnb h35 HMB.out
              obtain ⟨ms, hms⟩ : ∃ ms, ms = Dk.ap 0 1 mb (sz + 1) := ⟨_, rfl⟩
              rw [← hms] at mwf mlen HM mj
              have MWF := Aside0.mk mwf
              have MLEN := Aside0.mk mlen
              have MJ := Aside0.mk mj
              clear mwf mlen mj hms HN
              have CA := all_calls H.out rfl (by omega) nb (by omega)
              rw [show (nb : Int) = 100 - (sz : Int) by omega] at CA
              go_upto_region 26 with (go_at_call 14; (with_reducible refine CA.mono ?_); rintro e w9 ⟨A3, c3, L9, rfl, hc3, h9, hs9, e9⟩; have H9 := Aside0.mk h9; have S9 := Aside0.mk hs9; have E9 := Aside0.mk e9; have HC3 := Aside0.mk hc3; clear h9 hs9 e9 hc3)
              have hM9 : L9 (N + 1) = wsl 35 (.slice A2 ms.length c2) ms := by rw [E9.out (N + 1) (by omega) (by omega) (by omega)]; exact HM.out
              have CR := commit_refused A2 c2 ms H9.out rfl (row_src (N + 1) (by omega) (by omega) (by omega) A2 c2 ms hM9) (by rw [MLEN.out]; omega) (by omega) MWF.out (.inl (by rw [MJ.out]; decide))
              rw [MJ.out, MLEN.out] at CR
              clear CA H hM9 q6 q6'
              go_upto_region 28 with (go_at_call 13; (with_reducible refine CR.mono ?_); rintro e w10 ⟨rfl, hb⟩; have H10 := Aside0.mk (H9.out.below hb); clear hb)
              have CA2 := all_calls H10.out rfl (by omega) nb (by omega)
              rw [show (nb : Int) = 100 - (sz : Int) by omega] at CA2
              clear CR H9
              go_upto_region 29 with (go_at_call 14; (with_reducible refine CA2.mono ?_); rintro e w11 ⟨A4, c4, L11, rfl, hc4, h11, hs11, e11⟩; have H11 := Aside0.mk h11; have S11 := Aside0.mk hs11; have E11 := Aside0.mk e11; have HC4 := Aside0.mk hc4; clear h11 hs11 e11 hc4)
              have hxl := sec_len (flat l1) sz nb
              have HE11 : Aside0 (Els L11 (N + 1 + 1 + 1 + 1) 0 j) := ⟨els_more HE.out (fun t ht h1 h2 => by
                  rw [E11.out t (by omega) h1 h2, E9.out t (by omega) h1 h2, EL7.out t (by omega), E6.out t h1 h2]; exact EL.out t ht) (fun t h1 h2 h3 => by
                have a4 : t < 0 ∨ 0 + 4 ≤ t := by omega
                by_cases e3 : t = N + 1 + 1 + 1
                · subst e3; right; rw [S11.out]; rfl
                by_cases e2 : t = N + 1 + 1
                · subst e2; right; rw [E11.out _ (by omega) a4 h3, S9.out]; rfl
                by_cases e1 : t = N + 1
                · subst e1; left; rw [E11.out _ (by omega) a4 h3, E9.out _ (by omega) a4 h3, HM.out]; rfl
                obtain rfl : t = N := by omega
                left; rw [E11.out _ (by omega) a4 h3, E9.out _ (by omega) a4 h3, EL7.out _ (by omega), E6.out _ a4 h3, HW.out]; rfl)⟩
              have X1 := (E11.out (N + 1 + 1) (by omega) (by omega) (by omega)).trans S9.out
              have X2 := S11.out
              obtain ⟨xs, hxs⟩ : ∃ xs, xs = sec (flat l1) sz nb := ⟨_, rfl⟩
              rw [← hxs] at hxl X1 X2
              have CS := same_calls xs (by omega) A3 A4 c3 c4 w11 (texts_reads H11.out.at_.many (N + 1 + 1) (by omega) A3 c3 xs (by rw [hxl]; exact X1)) (texts_reads H11.out.at_.many (N + 1 + 1 + 1) (by omega) A4 c4 xs (by rw [hxl]; exact X2)) (by rw [hxl]; exact HC3.out) (by rw [hxl]; exact HC4.out)
              rw [hxl] at CS
              clear CA2 H10 X1 X2 hxs hxl
              go_upto_region 31 with (go_at_call 15; (with_reducible refine CS.mono ?_); rintro e w12 ⟨rfl, hb⟩; have H12 := Aside0.mk (H11.out.below hb); clear hb)
              clear CS H11
              have hand1 := and1 (i : Int)
              by_cases hodd : i % 2 = 1
              · have q7 : ((i : Int) % 2 = 1) = True := eq_true (by omega)
                have CK := open_known H12.out.at_ (rest_quiet OK2.out (by decide)) sz h4 (by omega) (by omega) OK2.out.zero
                go_wp2_with (go_at_call 9; (with_reducible refine CK.mono ?_); rintro e w13 ⟨gl2, L13, rfl, h13, e13⟩; have H13 := Aside0.mk (h13.more (show 200 * i + 1 + 2 * k + 3 ≤ 200 * (i + 1) + 1 by omega) (by omega)); have E13 : Aside0 (Els L13 (N + 1 + 1 + 1 + 1 + 1) 0 (N + 1 + 1 + 1 + 1)) := ⟨fun t ht h1 h2 => by
                    rw [e13 t (by omega) h1]
                    by_cases ej : t = j
                    · rw [ej, H12.out.log]; exact ⟨by show (76 : Nat) ≠ 5; decide, by show (76 : Nat) ≠ 84; decide⟩
                    · exact HE11.out t (by omega) h1 ej⟩; clear h13 e13)
                exact ⟨⟨i + 1, _, _, gl2, L13, l1, by omega, by omega, by go_num, rfl, H13, OK2, E13⟩, by simp [intOf]; omega⟩
              · have q7 : ((i : Int) % 2 = 1) = False := eq_false (by omega)
                have H13 := Aside0.mk (H12.out.more (show 200 * i + 1 + 2 * k + 3 ≤ 200 * (i + 1) + 1 by omega) (by omega))
                go_wp2
                exact ⟨⟨i + 1, _, j, gl, L11, l1, by omega, by omega, by go_num, rfl, H13, OK2, HE11⟩, by simp [intOf]; omega⟩
    · have hi12 : ¬ (i < ts.length ∧ i < 12) := hlt
      by_cases hlt1 : i < ts.length
      · have q1 : ((i : Int) < (ts.length : Int)) = True := eq_true (by omega)
        have q2 : (i < ts.length) = True := eq_true hlt1
        have q5 : ((i : Int) < 12) = False := eq_false (by omega)
        go_wp2
        go_ret
        exact ⟨rfl, below_then D0.out D0.out.size H.out.at_.bel⟩
      · have q1 : ((i : Int) < (ts.length : Int)) = False := eq_false (by omega)
        have q2 : (i < ts.length) = False := eq_false hlt1
        go_wp2
        go_ret
        exact ⟨rfl, below_then D0.out D0.out.size H.out.at_.bel⟩
end Go.Proofs.Ytfagljigaippiaa.Dk
