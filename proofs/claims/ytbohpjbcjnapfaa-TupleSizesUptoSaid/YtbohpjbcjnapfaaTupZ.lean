/- Chapter 5: TupleSizes' plain part: where each byte of a text's groups stands. -/
import Derived.Test.YtbohpjbcjnapfaaTupH
import Derived.Test.YtbohpjbcjnapfaaX55
namespace Go.Proofs.Ytbohpjbcjnapfaa.TupM
open Go.RowKit Go.Proofs.Ytbohpjbcjnapfaa.X Go.Proofs.YtbohpjbcjnapfaaW.PrintWords Go.Proofs.YtbohpjbcjnapfaaW.PrintLast
set_option linter.unusedVariables false
set_option linter.unusedSimpArgs false

/-- The number of groups. -/
def gn (t : List UInt8) : Nat := if t.length ≤ 8 then 1 else (t.length + 7) / 8
theorem gn_drop (t : List UInt8) (h : 8 < t.length) : gn t = gn (t.drop 8) + 1 := by
  unfold gn; rw [List.length_drop, if_neg (by omega)]
  by_cases h1 : t.length - 8 ≤ 8
  · rw [if_pos h1]; omega
  · rw [if_neg h1]; omega
theorem gn_pos (t : List UInt8) : 0 < gn t := by unfold gn; split <;> omega
theorem grp_all (t : List UInt8) : (grp t).length = 9 * gn t ∧ (∀ g i, g < gn t → i < 8 → (grp t)[9 * g + i]? = some (t[8 * g + i]?.getD 0)) ∧ ∀ g, g < gn t → (grp t)[9 * g + 8]? = some (if g + 1 = gn t then UInt8.ofNat (t.length - 8 * g) else 9) := by
  induction hn : t.length using Nat.strongRecOn generalizing t with
  | _ n ih =>
    by_cases h : 8 < t.length
    · obtain ⟨h1, h2, h3⟩ := ih (t.drop 8).length (by rw [List.length_drop]; omega) (t.drop 8) rfl
      have hg := gn_drop t h
      rw [grp_long h]
      have hl : (t.take 8).length = 8 := by rw [List.length_take]; omega
      have back : ∀ j, (t.take 8 ++ 9 :: grp (t.drop 8))[9 + j]? = (grp (t.drop 8))[j]? := by
        intro j
        rw [List.getElem?_append_right (by omega), hl, show 9 + j - 8 = j + 1 by omega, List.getElem?_cons_succ]
      refine ⟨?_, ?_, ?_⟩
      · rw [List.length_append, List.length_cons, h1, hl, hg]; omega
      · intro g i hgi hi
        cases g with
        | zero =>
          rw [List.getElem?_append_left (by omega), List.getElem?_take_of_lt (by omega), show 9 * 0 + i = i by omega, List.getElem?_eq_getElem (by omega)]; rfl
        | succ g =>
          rw [show 9 * (g + 1) + i = 9 + (9 * g + i) by omega, back, h2 g i (by omega) hi, List.getElem?_drop, show 8 + (8 * g + i) = 8 * (g + 1) + i by omega]
      · intro g hgi
        cases g with
        | zero =>
          rw [List.getElem?_append_right (by omega), hl, if_neg (by have : 0 < gn (t.drop 8) := gn_pos _; omega)]; rfl
        | succ g =>
          rw [show 9 * (g + 1) + 8 = 9 + (9 * g + 8) by omega, back, h3 g (by omega), List.length_drop, hg]
          by_cases e : g + 1 = gn (t.drop 8)
          · rw [if_pos e, if_pos (by omega), show t.length - 8 - 8 * g = t.length - 8 * (g + 1) by omega, hn]
          · rw [if_neg e, if_neg (by omega)]
    · have hg : gn t = 1 := by unfold gn; rw [if_pos (by omega)]
      rw [grp_short (by omega), hg]
      refine ⟨?_, ?_, ?_⟩
      · rw [List.length_append, List.length_append, List.length_replicate]; simp; omega
      · intro g i hgi hi
        obtain rfl : g = 0 := by omega
        rw [show 9 * 0 + i = i by omega, List.getElem?_append_left (by rw [List.length_append, List.length_replicate]; omega)]
        by_cases e : i < t.length
        · rw [List.getElem?_append_left e, List.getElem?_eq_getElem e]; rfl
        · rw [List.getElem?_append_right (by omega), List.getElem?_replicate, if_pos (by omega), List.getElem?_eq_none (by omega)]; rfl
      · intro g hgi
        obtain rfl : g = 0 := by omega
        rw [List.getElem?_append_right (by rw [List.length_append, List.length_replicate]; omega), List.length_append, List.length_replicate, show 9 * 0 + 8 - (t.length + (8 - t.length)) = 0 by omega, if_pos rfl, hn]; rfl

theorem bt_some (l : List UInt8) (i : Nat) (c : UInt8) (h : l[i]? = some c) : bt (tx l) (i : Int) = (c.toNat : Int) := by
  obtain ⟨h1, h2⟩ := List.getElem?_eq_some_iff.1 h
  rw [bt_tx l i h1, h2]
theorem w9 (g : Nat) (h : g ≤ 131073) : wrap64 (wrap64 (9 * (g : Int)) + 9) = ((9 * g + 9 : Nat) : Int) := by unfold wrap64; omega
theorem w8i (g i : Nat) (h : g ≤ 131073) (hi : i ≤ 8) : wrap64 (wrap64 (8 * (g : Int)) + (i : Int)) = ((8 * g + i : Nat) : Int) := by unfold wrap64; omega
theorem w9i (g i : Nat) (h : g ≤ 131073) (hi : i ≤ 8) : wrap64 (wrap64 (1 + wrap64 (9 * (g : Int))) + (i : Int)) = ((9 * g + i + 1 : Nat) : Int) := by unfold wrap64; omega
theorem wpred (g : Nat) (h : g ≤ 131073) (h0 : 0 < g) : wrap64 ((g : Int) - 1) = ((g - 1 : Nat) : Int) := by unfold wrap64; omega
theorem wrest (n g : Nat) (h : g ≤ 131073) (hn : n ≤ 1048576) (h8 : 8 * g ≤ n) (h9 : n - 8 * g < 256) : wrap64 ((n : Int) - wrap64 (8 * (g : Int))) % 256 = ((n - 8 * g : Nat) : Int) := by unfold wrap64; omega
theorem gn_le (t : List UInt8) (ht : t.length ≤ 1048576) : gn t ≤ 131073 := by unfold gn; split <;> omega
theorem gn_lastle (t : List UInt8) (g : Nat) (e : g + 1 = gn t) : 8 * g ≤ t.length ∧ t.length - 8 * g < 9 := by unfold gn at e; split at e <;> omega
theorem ite_eq' {c : Prop} [Decidable c] {a b : Option Bool} (h : c) : (if c then a else b) = a := if_pos h
theorem sz_step (t : List UInt8) (x1 : Int) (g i k : Nat) (hg : g < gn t) (hi : i < 8) (ht : t.length ≤ 1048576) :
    cofferlaw05_TupleSizes.l1 (k + 1) (tx t) x1 (tx (1 :: grp t)) (gn t : Int) (g : Int) (i : Int) = cofferlaw05_TupleSizes.l1 k (tx t) x1 (tx (1 :: grp t)) (gn t : Int) (g : Int) ((i + 1 : Nat) : Int) := by
  obtain ⟨h1, h2, h3⟩ := grp_all t
  have hs : (tx (1 :: grp t)).size = 9 * gn t + 1 := by rw [tx_size, List.length_cons, h1]
  have hb := bt_some (1 :: grp t) (9 * g + i + 1) _ (by rw [List.getElem?_cons_succ]; exact h2 g i hg hi)
  have hn := gn_le t ht
  clear h1 h2 h3
  simp only [cofferlaw05_TupleSizes.l1]
  rw [if_pos (by omega), w8i g i (by omega) (by omega), w9i g i (by omega) (by omega), w64_succ i (by omega), hs, hb, tx_size]
  clear hb
  by_cases hl : 8 * g + i < t.length
  · rw [if_pos (by omega), if_pos (by omega), if_pos (by omega), if_pos (by omega), if_pos (by rw [bt_tx t _ hl, List.getElem?_eq_getElem hl]; rfl)]
  · rw [if_neg (by omega), if_pos (by omega), if_pos (by omega), if_pos (by rw [List.getElem?_eq_none (by omega)]; rfl)]
theorem sz_last (t : List UInt8) (x1 : Int) (g k : Nat) (hg : g < gn t) (ht : t.length ≤ 1048576) :
    cofferlaw05_TupleSizes.l1 (k + 1) (tx t) x1 (tx (1 :: grp t)) (gn t : Int) (g : Int) ((8 : Nat) : Int) = cofferlaw05_TupleSizes.l0 k (tx t) x1 (tx (1 :: grp t)) (gn t : Int) ((g + 1 : Nat) : Int) := by
  obtain ⟨h1, h2, h3⟩ := grp_all t
  have hs : (tx (1 :: grp t)).size = 9 * gn t + 1 := by rw [tx_size, List.length_cons, h1]
  have hb := bt_some (1 :: grp t) (9 * g + 9) _ (by rw [show 9 * g + 9 = (9 * g + 8) + 1 by omega, List.getElem?_cons_succ]; exact h3 g hg)
  have hn := gn_le t ht
  have hp := gn_pos t
  have hll := gn_lastle t g
  clear h1 h2 h3
  simp only [cofferlaw05_TupleSizes.l1]
  rw [if_neg (by omega), w9 g (by omega), wpred (gn t) hn hp, w64_succ g (by omega), hs, hb]
  clear hb
  by_cases e : g + 1 = gn t
  · have h2 := hll e
    rw [if_pos (by omega), if_pos (by omega), if_pos (by omega), if_pos e, tx_size, wrest t.length g (by omega) ht h2.1 (by omega), if_pos (by rw [UInt8.toNat_ofNat']; omega)]
  · rw [if_neg (by omega), if_pos (by omega), if_pos (by omega), if_neg e, if_pos (by decide)]
theorem sz_l1 (t : List UInt8) (ht : t.length ≤ 1048576) (x1 : Int) (g : Nat) (hg : g < gn t) (K : Nat)
    (hK : ∀ k, K ≤ k → cofferlaw05_TupleSizes.l0 k (tx t) x1 (tx (1 :: grp t)) (gn t : Int) ((g + 1 : Nat) : Int) = some true) :
    ∀ (d i k : Nat), i + d = 8 → K + d < k → cofferlaw05_TupleSizes.l1 k (tx t) x1 (tx (1 :: grp t)) (gn t : Int) (g : Int) (i : Int) = some true
  | 0, i, k, e, hk => by
    obtain ⟨k, rfl⟩ : ∃ q, k = q + 1 := ⟨k - 1, by omega⟩
    obtain rfl : i = 8 := by omega
    rw [sz_last t x1 g k hg ht]; exact hK k (by omega)
  | d + 1, i, k, e, hk => by
    obtain ⟨k, rfl⟩ : ∃ q, k = q + 1 := ⟨k - 1, by omega⟩
    rw [sz_step t x1 g i k hg (by omega) ht]
    exact sz_l1 t ht x1 g hg K hK d (i + 1) k (by omega) (by omega)
theorem sz_l0 (t : List UInt8) (ht : t.length ≤ 1048576) (x1 : Int) (K : Nat)
    (hK : ∀ k, K ≤ k → cofferlaw05_TupleSizes.l0 k (tx t) x1 (tx (1 :: grp t)) (gn t : Int) (gn t : Int) = some true) :
    ∀ (d g : Nat), g + d = gn t → ∀ k, K + 10 * d ≤ k → cofferlaw05_TupleSizes.l0 k (tx t) x1 (tx (1 :: grp t)) (gn t : Int) (g : Int) = some true
  | 0, g, e, k, hk => by
    obtain rfl : g = gn t := by omega
    exact hK k (by omega)
  | d + 1, g, e, k, hk => by
    obtain ⟨k, rfl⟩ : ∃ q, k = q + 1 := ⟨k - 1, by omega⟩
    simp only [cofferlaw05_TupleSizes.l0]
    rw [if_pos (by omega)]
    exact sz_l1 t ht x1 g (by omega) (K + 10 * d) (fun k hk => sz_l0 t ht x1 K hK d (g + 1) (by omega) k hk) 8 0 k (by omega) (by omega)

theorem sub_T (x : BitVec 64) : x - T = x ^^^ T := by
  have key : ∀ y : BitVec 64, y &&& T = 0 → y + T = y ^^^ T := by
    intro y hy
    rw [BitVec.add_eq_or_of_and_eq_zero _ _ hy]
    apply BitVec.eq_of_getLsbD_eq
    intro i hi
    have := congrArg (fun z => z.getLsbD i) hy
    simp only [BitVec.getLsbD_and, BitVec.getLsbD_or, BitVec.getLsbD_xor, BitVec.getLsbD_zero] at this ⊢
    rw [show BitVec.getLsbD (0 : BitVec 64) i = false by simp] at this
    revert this
    cases y.getLsbD i <;> cases T.getLsbD i <;> simp
  have hT : T + T = 0 := by decide
  have hz : ∀ y : BitVec 64, y.getLsbD 63 = false → y &&& T = 0 := by
    intro y hy
    apply BitVec.eq_of_getLsbD_eq
    intro i hi
    have hTi : T.getLsbD i = decide (i = 63) := by
      have : ∀ i : Fin 64, T.getLsbD i.1 = decide (i.1 = 63) := by decide
      exact this ⟨i, hi⟩
    rw [BitVec.getLsbD_and, hTi]
    by_cases e : i = 63
    · subst e; rw [hy]; rfl
    · simp [e]
  by_cases h : x.getLsbD 63 = false
  · rw [← key x (hz x h)]
    have : x - T = x + T := by
      rw [BitVec.sub_eq_add_neg]; rfl
    exact this
  · have hy : (x ^^^ T).getLsbD 63 = false := by
      rw [BitVec.getLsbD_xor, show T.getLsbD 63 = true by decide, eq_true_of_ne_false h]; rfl
    have e := key _ (hz _ hy)
    rw [BitVec.xor_assoc, BitVec.xor_self, BitVec.xor_zero] at e
    rw [← e, BitVec.add_sub_cancel]
    rw [e]
theorem back_num (n : Int) (h : i64 n) : wrap64 (IntKind.u64.wrap (numR n - 9223372036854775808)) = n := by
  have e : IntKind.u64.wrap (numR n - 9223372036854775808) = enc (BitVec.ofInt 64 n) := by
    unfold numR
    rw [wrap_u64 n, T_enc, xor_enc, wrap_u64]
    congr 1
    have : BitVec.ofInt 64 (enc (BitVec.ofInt 64 n ^^^ T) - enc T) = (BitVec.ofInt 64 n ^^^ T) - T := by
      apply BitVec.eq_of_toNat_eq
      generalize BitVec.ofInt 64 n ^^^ T = y
      have hy := y.isLt
      have hT := T.isLt
      rw [BitVec.toNat_ofInt, BitVec.toNat_sub]; unfold enc; omega
    rw [this, sub_T, BitVec.xor_assoc, BitVec.xor_self, BitVec.xor_zero]
  rw [e, wrap64_enc, toInt_ofInt n h]
theorem num_w2 (n : Int) : tuple_Write.f [⟨2, tx [], n⟩] = some (tx (2 :: be (numR n) 8), 0) := by
  have e : encL [⟨2, tx [], n⟩] = 2 :: be (numR n) 8 := by
    rw [encL_cons _ _ (vld_num _ _ (.inl rfl))]; show (2 :: be (numR n) 8) ++ [] = _; rw [List.append_nil]
  rw [write_f _ (by rw [e, List.length_cons, be_len]; decide)]
  unfold wrF
  rw [e, if_pos (by simp [vld_num 2 n (.inl rfl)])]; rfl
theorem num_w3 (n : Int) : tuple_Write.f [⟨3, tx [], n⟩] = some (tx (3 :: be (numF n) 8), 0) := by
  have e : encL [⟨3, tx [], n⟩] = 3 :: be (numF n) 8 := by
    rw [encL_cons _ _ (vld_num _ _ (.inr rfl))]; show (3 :: be (numF n) 8) ++ [] = _; rw [List.append_nil]
  rw [write_f _ (by rw [e, List.length_cons, be_len]; decide)]
  unfold wrF
  rw [e, if_pos (by simp [vld_num 3 n (.inr rfl)])]; rfl
theorem num_sum (n : Int) : numR n + numF n = 18446744073709551615 := by
  have : ∃ x : BitVec 64, numR n = enc x := ⟨BitVec.ofInt 64 (numR n), enc_of _ (numR_range n).1 (numR_range n).2⟩
  obtain ⟨x, hx⟩ := this
  unfold numF
  rw [hx, not_enc]
  unfold enc
  rw [BitVec.toNat_not]
  have := x.isLt; omega
theorem be_get (v : Int) (i : Nat) (h : i < 8) : (be v 8)[i]? = some (UInt8.ofNat ((v / 2 ^ (8 * (7 - i))) % 256).toNat) := by
  unfold be
  rw [List.getElem?_map, List.getElem?_range h]; rfl
theorem digit_sum (v w : Int) (h : v + w = 18446744073709551615) (i : Nat) (hi : i < 8) : (v / 2 ^ (8 * (7 - i))) % 256 + (w / 2 ^ (8 * (7 - i))) % 256 = 255 := by
  obtain rfl : w = 18446744073709551615 - v := by omega
  have : i = 0 ∨ i = 1 ∨ i = 2 ∨ i = 3 ∨ i = 4 ∨ i = 5 ∨ i = 6 ∨ i = 7 := by omega
  rcases this with rfl | rfl | rfl | rfl | rfl | rfl | rfl | rfl <;> (simp only [Nat.reduceSub, Nat.reduceMul, Int.reducePow]; omega)
theorem xor_all : (List.range 256).all (fun a => Go.bits .xor .u8 ((a : Nat) : Int) ((255 - a : Nat) : Int) == 255) = true := by kernel_rfl
theorem xor_255 (a : Nat) (h : a < 256) : Go.bits .xor .u8 ((a : Nat) : Int) ((255 - a : Nat) : Int) = 255 := by
  have := List.all_eq_true.1 xor_all a (List.mem_range.2 h)
  exact beq_iff_eq.1 this
theorem bt_xor (n : Int) (i : Nat) (hi : i < 8) : Go.bits .xor .u8 (bt (tx (2 :: be (numR n) 8)) ((i : Int) + 1)) (bt (tx (3 :: be (numF n) 8)) ((i : Int) + 1)) = 255 := by
  have e1 := bt_some (2 :: be (numR n) 8) (i + 1) _ (by rw [List.getElem?_cons_succ]; exact be_get _ i hi)
  have e2 := bt_some (3 :: be (numF n) 8) (i + 1) _ (by rw [List.getElem?_cons_succ]; exact be_get _ i hi)
  rw [show (i : Int) + 1 = ((i + 1 : Nat) : Int) by omega, e1, e2]
  have hd := digit_sum (numR n) (numF n) (num_sum n) i hi
  have ha : 0 ≤ (numR n / 2 ^ (8 * (7 - i))) % 256 ∧ (numR n / 2 ^ (8 * (7 - i))) % 256 < 256 := by omega
  generalize (numR n / 2 ^ (8 * (7 - i))) % 256 = a at *
  generalize (numF n / 2 ^ (8 * (7 - i))) % 256 = b at *
  obtain ⟨a, rfl⟩ := Int.eq_ofNat_of_zero_le ha.1
  obtain rfl : b = ((255 - a : Nat) : Int) := by omega
  rw [UInt8.toNat_ofNat', UInt8.toNat_ofNat', Int.toNat_natCast, Int.toNat_natCast, Nat.mod_eq_of_lt (by omega), Nat.mod_eq_of_lt (by omega)]
  exact xor_255 a (by omega)
theorem bt_cons (c : UInt8) (l : List UInt8) (i : Nat) (h : i < l.length) : bt (tx (c :: l)) ((i : Int) + 1) = bt (tx l) (i : Int) := by
  rw [show (i : Int) + 1 = ((i + 1 : Nat) : Int) by omega, bt_tx (c :: l) (i + 1) (by rw [List.length_cons]; omega), bt_tx l i h]; rfl
theorem sz_l2 (n : Int) (hn : i64 n) : ∀ (d i k : Nat), i + d = 8 → d < k → cofferlaw05_TupleSizes.l2 k n (tx (2 :: be (numR n) 8)) (tx (3 :: be (numF n) 8)) (valF ((be (numR n) 8).take i)) ((i : Int) + 1) = some true
  | 0, i, k, e, hk => by
    obtain ⟨k, rfl⟩ : ∃ q, k = q + 1 := ⟨k - 1, by omega⟩
    obtain rfl : i = 8 := by omega
    simp only [cofferlaw05_TupleSizes.l2]
    rw [if_neg (by omega), List.take_of_length_le (by rw [be_len]; omega), valF_be _ (numR_range n).1 (numR_range n).2, back_num n hn]
    simp
  | d + 1, i, k, e, hk => by
    obtain ⟨k, rfl⟩ : ∃ q, k = q + 1 := ⟨k - 1, by omega⟩
    have st := valF_step (be (numR n) 8) i (by rw [be_len]; omega) (by omega)
    have rest := sz_l2 n hn d (i + 1) k (by omega) (by omega)
    simp only [cofferlaw05_TupleSizes.l2]
    rw [if_pos (by omega), if_pos (by omega), if_pos (by rw [tx_size, List.length_cons, be_len]; omega), if_pos (by rw [tx_size, List.length_cons, be_len]; omega), if_pos (bt_xor n i (by omega)), bt_cons _ _ i (by rw [be_len]; omega), st,
      show wrap64 ((i : Int) + 1 + 1) = ((i + 1 : Nat) : Int) + 1 by unfold wrap64; omega]
    exact rest
theorem sz_end (t : List UInt8) (n : Int) (hn : i64 n) (k : Nat) (hk : 12 ≤ k) : cofferlaw05_TupleSizes.l0 k (tx t) n (tx (1 :: grp t)) (gn t : Int) (gn t : Int) = some true := by
  obtain ⟨k, rfl⟩ : ∃ q, k = q + 1 + 1 := ⟨k - 2, by omega⟩
  simp only [cofferlaw05_TupleSizes.l0]
  rw [if_neg (by omega), show (⟨#[]⟩ : ByteArray) = tx [] from rfl, num_w2, num_w3]
  simp only [Option.bind_some]
  have s2 : ((tx (2 :: be (numR n) 8)).size : Int) = 9 := by rw [tx_size, List.length_cons, be_len]; rfl
  have s3 : ((tx (3 :: be (numF n) 8)).size : Int) = 9 := by rw [tx_size, List.length_cons, be_len]; rfl
  have b2 : bt (tx (2 :: be (numR n) 8)) 0 = 2 := bt_some _ 0 2 rfl
  have b3 : bt (tx (3 :: be (numF n) 8)) 0 = 3 := bt_some _ 0 3 rfl
  rw [if_pos trivial, if_pos trivial, s2, s3, if_pos rfl, if_pos rfl, if_pos (by decide), b2, if_pos rfl, if_pos (by decide), b3]
  simp only [cofferlaw05_TupleSizes.j4]
  rw [if_neg (by decide)]
  exact sz_l2 n hn 8 0 k (by omega) (by omega)
theorem txt_w (t : List UInt8) (ht : t.length ≤ 1048576) : tuple_Write.f [⟨1, tx t, 0⟩] = some (tx (1 :: grp t), 0) := by
  have e : encL [⟨1, tx t, 0⟩] = 1 :: grp t := by
    rw [encL_cons _ _ rfl]; show (1 :: grp t) ++ [] = _; rw [List.append_nil]
  have hl := grp_len t
  rw [write_f _ (by rw [e, List.length_cons]; omega)]
  unfold wrF
  rw [e]; rfl
theorem sizes_f (t : List UInt8) (ht : t.length ≤ 1048576) (n : Int) (hn : i64 n) : ∃ k, cofferlaw05_TupleSizes.f k (tx t) n = some true := by
  obtain ⟨K0, h0⟩ := head_f
  obtain ⟨h1, h2, h3⟩ := grp_all t
  have gl := gn_le t ht
  have gp := gn_pos t
  refine ⟨K0 + 10 * gn t + 20, ?_⟩
  unfold cofferlaw05_TupleSizes.f
  rw [h0 _ (by omega), txt_w t ht]
  simp only [Option.bind_some]
  rw [if_pos trivial]
  have key : cofferlaw05_TupleSizes.j0 (K0 + 10 * gn t + 20) (tx t) n (tx (1 :: grp t)) 0 (gn t : Int) = some true := by
    obtain ⟨k, hk, hk2⟩ : ∃ q, K0 + 10 * gn t + 20 = q + 1 + 1 ∧ 10 * gn t + 12 ≤ q := ⟨K0 + 10 * gn t + 18, by omega, by omega⟩
    rw [hk]
    have hs : ((tx (1 :: grp t)).size : Int) = wrap64 (1 + wrap64 (9 * (gn t : Int))) := by rw [tx_size, List.length_cons, h1]; unfold wrap64; omega
    have b1 : bt (tx (1 :: grp t)) 0 = 1 := bt_some _ 0 1 rfl
    simp only [cofferlaw05_TupleSizes.j0]
    rw [if_pos trivial, if_pos hs, if_pos (by rw [tx_size, List.length_cons]; omega), b1]
    simp only [cofferlaw05_TupleSizes.j1]
    rw [if_neg (by decide)]
    exact sz_l0 t ht n 12 (fun k hk => sz_end t n hn k hk) (gn t) 0 (by omega) k (by omega)
  by_cases he : t = []
  · rw [if_pos (by rw [he, tx_tl])]
    have : (gn t : Int) = 1 := by rw [he]; rfl
    rw [this] at key; exact key
  · rw [if_neg (by rw [tx_tl]; exact he)]
    have : wrap64 (Int.tdiv (wrap64 (((tx t).size : Int) + 7)) 8) = (gn t : Int) := by
      have : 0 < t.length := List.length_pos_iff.2 he
      rw [tx_size, show wrap64 ((t.length : Int) + 7) = ((t.length + 7 : Nat) : Int) by unfold wrap64; omega]
      rw [show Int.tdiv ((t.length + 7 : Nat) : Int) 8 = (((t.length + 7) / 8 : Nat) : Int) from rfl]
      have hg : gn t = (t.length + 7) / 8 := by unfold gn; split <;> omega
      rw [hg]; unfold wrap64; omega
    rw [this]; exact key
end Go.Proofs.Ytbohpjbcjnapfaa.TupM
