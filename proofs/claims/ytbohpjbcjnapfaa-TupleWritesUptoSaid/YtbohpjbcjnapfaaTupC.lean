/- Chapter 5: both Compares and both Writes, in plain words. -/
import Derived.Test.YtbohpjbcjnapfaaTupH
import Derived.Test.YtbohpjbcjnapfaaXB
import Derived.Test.YtbohpjbcjnapfaaX51
namespace Go.Proofs.Ytbohpjbcjnapfaa.TupM
open Go.RowKit Go.Proofs.Ytbohpjbcjnapfaa.X Go.Proofs.YtbohpjbcjnapfaaW.PrintWords Go.Proofs.YtbohpjbcjnapfaaW.PrintLast
set_option linter.unusedVariables false
set_option linter.unusedSimpArgs false

def sgn (a b : Int) : Int := if a < b then -1 else if b < a then 1 else 0
theorem sgn_neg (a b : Int) : sgn b a = -sgn a b := by unfold sgn; split <;> (try split) <;> omega
theorem sgn_zero {a b : Int} (h : sgn a b = 0) : a = b := by unfold sgn at h; split at h <;> (try split at h) <;> omega
theorem sgn_self (a : Int) : sgn a a = 0 := by unfold sgn; rw [if_neg (by omega), if_neg (by omega)]
theorem sgn_three (a b : Int) : sgn a b = -1 ∨ sgn a b = 0 ∨ sgn a b = 1 := by unfold sgn; split <;> (try split) <;> simp
theorem cB_neg : ∀ a b : List UInt8, Lib.compareBytes b a = -Lib.compareBytes a b
  | [], [] => rfl
  | [], _ :: _ => rfl
  | _ :: _, [] => rfl
  | c :: a, d :: b => by
    have ih := cB_neg a b
    simp only [Lib.compareBytes]
    by_cases h : c < d
    · rw [if_pos h, if_neg (fun h2 => absurd (UInt8.lt_trans h h2) (UInt8.lt_irrefl c)), if_pos h]; rfl
    · by_cases h2 : d < c
      · rw [if_pos h2, if_neg h, if_pos h2]
      · rw [if_neg h, if_neg h2, if_neg h2, if_neg h, ih]
theorem cB_zero : ∀ {a b : List UInt8}, Lib.compareBytes a b = 0 → a = b
  | [], [], _ => rfl
  | [], _ :: _, h => by simp [Lib.compareBytes] at h
  | _ :: _, [], h => by simp [Lib.compareBytes] at h
  | c :: a, d :: b, h => by
    simp only [Lib.compareBytes] at h
    by_cases h1 : c < d
    · rw [if_pos h1] at h; simp at h
    · by_cases h2 : d < c
      · rw [if_neg h1, if_pos h2] at h; simp at h
      · rw [if_neg h1, if_neg h2] at h
        rw [cB_zero h, UInt8.le_antisymm (UInt8.not_lt.1 h2) (UInt8.not_lt.1 h1)]
theorem cB_self : ∀ a : List UInt8, Lib.compareBytes a a = 0
  | [] => rfl
  | c :: a => by simp only [Lib.compareBytes]; rw [if_neg (UInt8.lt_irrefl c), if_neg (UInt8.lt_irrefl c), cB_self a]
theorem cB_three : ∀ a b : List UInt8, Lib.compareBytes a b = -1 ∨ Lib.compareBytes a b = 0 ∨ Lib.compareBytes a b = 1
  | [], [] => by simp [Lib.compareBytes]
  | [], _ :: _ => by simp [Lib.compareBytes]
  | _ :: _, [] => by simp [Lib.compareBytes]
  | c :: a, d :: b => by
    have := cB_three a b
    simp only [Lib.compareBytes]
    split
    · simp
    · split
      · simp
      · exact this
/-- The order of two parts. -/
def cmpP (p q : S52) : Int :=
  if p.f0 = q.f0 then (if Lib.compareBytes p.f1.data.toList q.f1.data.toList = 0 then (if p.f0 = 3 then sgn q.f2 p.f2 else sgn p.f2 q.f2) else Lib.compareBytes p.f1.data.toList q.f1.data.toList) else sgn p.f0 q.f0
theorem cmpP_neg (p q : S52) : cmpP q p = -cmpP p q := by
  unfold cmpP
  by_cases h : p.f0 = q.f0
  · rw [if_pos h.symm, if_pos h, cB_neg p.f1.data.toList q.f1.data.toList, ← h]
    by_cases h2 : Lib.compareBytes p.f1.data.toList q.f1.data.toList = 0
    · rw [if_pos (by omega), if_pos h2]
      by_cases h3 : p.f0 = 3
      · rw [if_pos h3, if_pos h3, sgn_neg]
      · rw [if_neg h3, if_neg h3, sgn_neg]
    · rw [if_neg (by omega), if_neg h2]
  · rw [if_neg (fun e => h e.symm), if_neg h, sgn_neg]
theorem cmpP_three (p q : S52) : cmpP p q = -1 ∨ cmpP p q = 0 ∨ cmpP p q = 1 := by
  unfold cmpP
  split
  · split
    · split <;> exact sgn_three _ _
    · exact cB_three _ _
  · exact sgn_three _ _
/-- The order of two lists. -/
def cmpL : List S52 → List S52 → Int
  | [], [] => 0
  | [], _ :: _ => -1
  | _ :: _, [] => 1
  | p :: a, q :: b => if cmpP p q = 0 then cmpL a b else cmpP p q
theorem cmpL_neg : ∀ a b : List S52, cmpL b a = -cmpL a b
  | [], [] => rfl
  | [], _ :: _ => rfl
  | _ :: _, [] => rfl
  | p :: a, q :: b => by
    simp only [cmpL]
    rw [cmpP_neg p q, cmpL_neg a b]
    by_cases h : cmpP p q = 0
    · rw [if_pos (by omega), if_pos h]
    · rw [if_neg (by omega), if_neg h]
theorem cmpL_three : ∀ a b : List S52, cmpL a b = -1 ∨ cmpL a b = 0 ∨ cmpL a b = 1
  | [], [] => by simp [cmpL]
  | [], _ :: _ => by simp [cmpL]
  | _ :: _, [] => by simp [cmpL]
  | p :: a, q :: b => by
    simp only [cmpL]
    split
    · exact cmpL_three a b
    · exact cmpP_three p q

theorem cmp_i (a b : Int) : cmp_Compare_int.f a b = some (sgn a b) := by
  simp [cmp_Compare_int.f, cmp_isNaN_int.f, sgn]
  split
  · rfl
  · split <;> rfl
theorem cmp_n (a b : Int) : cmp_Compare_int64.f a b = some (sgn a b) := by
  simp [cmp_Compare_int64.f, cmp_isNaN_int64.f, sgn]
  split
  · rfl
  · split <;> rfl
theorem or3 (a b c : Int) (k : Nat) (hk : 4 ≤ k) : cmp_Or_int.f k [a, b, c] = some (if a = 0 then (if b = 0 then c else b) else a) := by
  obtain ⟨k, rfl⟩ : ∃ q, k = q + 1 + 1 + 1 + 1 := ⟨k - 4, by omega⟩
  have w1 : wrap64 ((0 : Int) + 1) = 1 := by unfold wrap64; omega
  have w2 : wrap64 ((1 : Int) + 1) = 2 := by unfold wrap64; omega
  have w3 : wrap64 ((2 : Int) + 1) = 3 := by unfold wrap64; omega
  unfold cmp_Or_int.f
  simp only [cmp_Or_int.l0, w1, w2, w3]
  by_cases ha : a = 0
  · by_cases hb : b = 0
    · by_cases hc : c = 0 <;> simp [rd, ha, hb, hc]
    · simp [rd, ha, hb]
  · simp [rd, ha]
theorem neg_sgn (a b : Int) : wrap64 (-sgn a b) = sgn b a := by
  rw [sgn_neg a b]
  rcases sgn_three a b with h | h | h <;> rw [h] <;> unfold wrap64 <;> omega
theorem pcompare_f (p q : S52) (k : Nat) (hk : 4 ≤ k) : tuple_compare.f k p.f0 p.f1 p.f2 q.f0 q.f1 q.f2 = some (cmpP p q) := by
  unfold tuple_compare.f
  rw [cmp_n, cmp_i]
  simp only [Option.bind_some]
  have hs : strings_Compare.f p.f1 q.f1 = some (Lib.compareBytes p.f1.data.toList q.f1.data.toList) := rfl
  rw [hs]
  simp only [Option.bind_some]
  rw [neg_sgn, or3 _ _ _ k hk, or3 _ _ _ k hk]
  simp only [Option.bind_some]
  have core : ∀ n, (if sgn p.f0 q.f0 = 0 then (if Lib.compareBytes p.f1.data.toList q.f1.data.toList = 0 then n else Lib.compareBytes p.f1.data.toList q.f1.data.toList) else sgn p.f0 q.f0) = (if p.f0 = q.f0 then (if Lib.compareBytes p.f1.data.toList q.f1.data.toList = 0 then n else Lib.compareBytes p.f1.data.toList q.f1.data.toList) else sgn p.f0 q.f0) := by
    intro n
    by_cases h : p.f0 = q.f0
    · rw [if_pos h, h, sgn_self, if_pos rfl]
    · rw [if_neg h, if_neg (fun e => h (sgn_zero e))]
  unfold cmpP
  by_cases h3 : p.f0 = 3
  · rw [if_pos h3, core, if_pos h3]
  · rw [if_neg h3, core, if_neg h3]
theorem mn_nat (a b : Nat) : mn (a : Int) (b : Int) = ((min a b : Nat) : Int) := by unfold mn; split <;> omega
theorem cmpL_end (a b : List S52) (i : Nat) (h : i = min a.length b.length) : cmpL (a.drop i) (b.drop i) = sgn (a.length : Int) (b.length : Int) := by
  rcases Nat.lt_trichotomy a.length b.length with hl | hl | hl
  · obtain rfl : i = a.length := by omega
    rw [List.drop_length, List.drop_eq_getElem_cons hl]
    simp only [cmpL, sgn]; rw [if_pos (by omega)]
  · obtain rfl : i = a.length := by omega
    rw [List.drop_length, hl, List.drop_length, sgn_self]; rfl
  · obtain rfl : i = b.length := by omega
    rw [List.drop_length, List.drop_eq_getElem_cons hl]
    simp only [cmpL, sgn]; rw [if_neg (by omega), if_pos (by omega)]
theorem compare_l0 (a b : List S52) (ha : a.length ≤ 2097152) : ∀ (d i k : Nat), i + d = min a.length b.length → d + 5 < k → tuple_Compare.l0 k a b ((min a.length b.length : Nat) : Int) (i : Int) = some (cmpL (a.drop i) (b.drop i))
  | 0, i, k, e, hk => by
    obtain ⟨k, rfl⟩ : ∃ q, k = q + 1 := ⟨k - 1, by omega⟩
    simp only [tuple_Compare.l0]
    rw [if_neg (by omega), cmp_i, cmpL_end a b i (by omega)]; rfl
  | d + 1, i, k, e, hk => by
    obtain ⟨k, rfl⟩ : ∃ q, k = q + 1 := ⟨k - 1, by omega⟩
    have ia : i < a.length := by omega
    have ib : i < b.length := by omega
    have rest := compare_l0 a b ha d (i + 1) k (by omega) (by omega)
    simp only [tuple_Compare.l0]
    rw [if_pos (by omega), if_pos (by omega), if_pos (by omega), if_pos (by omega), rd52 a i ia, rd52 b i ib, pcompare_f _ _ k (by omega), w64_succ i (by omega), rest]
    simp only [Option.bind_some]
    rw [List.drop_eq_getElem_cons ia, List.drop_eq_getElem_cons ib]
    simp only [cmpL]
    by_cases h : cmpP a[i] b[i] = 0
    · rw [if_pos h, if_pos h]
    · rw [if_neg h, if_neg h]
theorem compare_f (a b : List S52) (ha : a.length ≤ 2097152) (k : Nat) (hk : a.length + 5 < k) : tuple_Compare.f k a b = some (cmpL a b) := by
  unfold tuple_Compare.f
  rw [mn_nat]
  exact compare_l0 a b ha (min a.length b.length) 0 k (by omega) (by omega)

/-- The document's part as the program's. -/
def vc (p : S58) : S52 := ⟨p.f0, p.f1, p.f2⟩
theorem order_l0 (a b : List UInt8) (ha : a.length ≤ 2097152) : ∀ (d i k : Nat), i + d = a.length → i ≤ b.length → 2 * d + 2 < k → cofferref05_Order.l0 k (tx a) (tx b) (i : Int) = some (Lib.compareBytes (a.drop i) (b.drop i))
  | 0, i, k, e, hb, hk => by
    obtain ⟨k, rfl⟩ : ∃ q, k = q + 1 + 1 := ⟨k - 2, by omega⟩
    obtain rfl : i = a.length := by omega
    simp only [cofferref05_Order.l0, cofferref05_Order.j1]
    rw [if_neg (by rw [tx_size]; omega), if_neg (by decide), tx_size, tx_size, List.drop_length]
    by_cases h : a.length < b.length
    · rw [if_pos (by omega), List.drop_eq_getElem_cons h]; rfl
    · rw [if_neg (by omega), if_neg (by omega), List.drop_of_length_le (by omega)]; rfl
  | d + 1, i, k, e, hb, hk => by
    obtain ⟨k, rfl⟩ : ∃ q, k = q + 1 + 1 := ⟨k - 2, by omega⟩
    have ia : i < a.length := by omega
    simp only [cofferref05_Order.l0, cofferref05_Order.j1]
    rw [if_pos (by rw [tx_size]; omega), tx_size, tx_size]
    by_cases ib : i < b.length
    · have rest := order_l0 a b ha d (i + 1) k (by omega) (by omega) (by omega)
      rw [if_pos (by simpa using ib), if_pos (by omega), if_pos (by omega), if_pos (by omega), bt_tx a i ia, bt_tx b i ib, w64_succ i (by omega), rest, List.drop_eq_getElem_cons ia, List.drop_eq_getElem_cons ib]
      simp only [Lib.compareBytes]
      by_cases h1 : a[i] < b[i]
      · have h2 := UInt8.lt_iff_toNat_lt.1 h1
        rw [if_neg (by omega), if_pos (by omega), if_pos h1]
      · by_cases h2 : b[i] < a[i]
        · have h3 := UInt8.lt_iff_toNat_lt.1 h2
          rw [if_neg (by omega), if_neg (by omega), if_neg h1, if_pos h2]
        · have h3 : a[i] = b[i] := UInt8.le_antisymm (UInt8.not_lt.1 h2) (UInt8.not_lt.1 h1)
          rw [if_pos (by rw [h3]), if_neg h1, if_neg h2]
    · rw [if_neg (by simpa using ib), if_neg (by omega), if_pos (by omega), List.drop_eq_getElem_cons ia, List.drop_of_length_le (l := b) (i := i) (by omega)]; rfl
theorem order_f (a b : List UInt8) (ha : a.length ≤ 2097152) (k : Nat) (hk : 2 * a.length + 2 < k) : cofferref05_Order.f k (tx a) (tx b) = some (Lib.compareBytes a b) := order_l0 a b ha a.length 0 k (by omega) (by omega) hk
theorem numbers_f (a b : Int) : cofferref05_numbers.f a b = some (sgn a b) := by
  unfold cofferref05_numbers.f sgn
  split
  · rfl
  · split <;> rfl
theorem rparts_f (p q : S58) (hp : p.f1.size ≤ 1048576) (k : Nat) (hk : 2 * p.f1.size + 2 < k) : cofferref05_parts.f k p.f0 p.f1 p.f2 q.f0 q.f1 q.f2 = some (cmpP (vc p) (vc q)) := by
  have ho : cofferref05_Order.f k p.f1 q.f1 = some (Lib.compareBytes p.f1.data.toList q.f1.data.toList) := order_f p.f1.data.toList q.f1.data.toList (Nat.le_trans hp (by decide)) k hk
  unfold cofferref05_parts.f cmpP
  show _ = some (if p.f0 = q.f0 then (if Lib.compareBytes p.f1.data.toList q.f1.data.toList = 0 then (if p.f0 = 3 then sgn q.f2 p.f2 else sgn p.f2 q.f2) else Lib.compareBytes p.f1.data.toList q.f1.data.toList) else sgn p.f0 q.f0)
  rw [ho, numbers_f, numbers_f, numbers_f]
  simp only [Option.bind_some]
  split
  · split
    · split <;> rfl
    · rfl
  · rfl
theorem rcompare_l0 (a b : List S58) (ha : a.length ≤ 1048576) (hs : ∀ q ∈ a, q.f1.size ≤ 1048576) : ∀ (d i k : Nat), i + d = a.length → i ≤ b.length → 2 * d + 2097160 < k → cofferref05_Compare.l0 k a b (i : Int) = some (cmpL ((a.map vc).drop i) ((b.map vc).drop i))
  | 0, i, k, e, hb, hk => by
    obtain ⟨k, rfl⟩ : ∃ q, k = q + 1 + 1 := ⟨k - 2, by omega⟩
    obtain rfl : i = a.length := by omega
    simp only [cofferref05_Compare.l0, cofferref05_Compare.j1]
    have := cmpL_end (a.map vc) (b.map vc) a.length (by rw [List.length_map, List.length_map]; omega)
    rw [if_neg (by omega), if_neg (by decide), numbers_f, this, List.length_map, List.length_map]; rfl
  | d + 1, i, k, e, hb, hk => by
    obtain ⟨k, rfl⟩ : ∃ q, k = q + 1 + 1 := ⟨k - 2, by omega⟩
    have ia : i < a.length := by omega
    have hq := hs a[i] (List.getElem_mem ia)
    simp only [cofferref05_Compare.l0, cofferref05_Compare.j1]
    rw [if_pos (by omega)]
    by_cases ib : i < b.length
    · have rest := rcompare_l0 a b ha hs d (i + 1) k (by omega) (by omega) (by omega)
      rw [if_pos (by simpa using ib), if_pos (by omega), if_pos (by omega), if_pos (by omega), rd58 a i ia, rd58 b i ib, rparts_f _ _ hq k (by omega), w64_succ i (by omega), rest]
      simp only [Option.bind_some]
      rw [List.drop_eq_getElem_cons (i := i) (l := a.map vc) (by rw [List.length_map]; exact ia), List.drop_eq_getElem_cons (i := i) (l := b.map vc) (by rw [List.length_map]; exact ib), List.getElem_map, List.getElem_map]
      simp only [cmpL]
      by_cases h : cmpP (vc a[i]) (vc b[i]) = 0
      · rw [if_pos h, if_pos h]
      · rw [if_neg h, if_neg h]
    · have := cmpL_end (a.map vc) (b.map vc) i (by rw [List.length_map, List.length_map]; omega)
      rw [if_neg (by simpa using ib), numbers_f, this, List.length_map, List.length_map]; rfl
theorem rcompare_f (a b : List S58) (ha : a.length ≤ 1048576) (hs : ∀ q ∈ a, q.f1.size ≤ 1048576) (k : Nat) (hk : 2 * a.length + 2097160 < k) : cofferref05_Compare.f k a b = some (cmpL (a.map vc) (b.map vc)) := rcompare_l0 a b ha hs a.length 0 k (by omega) (by omega) hk

theorem number_l0 (v : Int) : ∀ (d i k : Nat), i + d = 8 → d < k → cofferref05_number.l0 k v (((List.range i).map fun j => (v / 2 ^ (8 * (7 - j))) % 256)) (7 - (i : Int)) = some (tx (be v 8))
  | 0, i, k, e, hk => by
    obtain ⟨k, rfl⟩ : ∃ q, k = q + 1 := ⟨k - 1, by omega⟩
    obtain rfl : i = 8 := by omega
    simp only [cofferref05_number.l0]
    rw [if_neg (by omega)]
    congr 1
  | d + 1, i, k, e, hk => by
    obtain ⟨k, rfl⟩ : ∃ q, k = q + 1 := ⟨k - 1, by omega⟩
    have rest := number_l0 v d (i + 1) k (by omega) (by omega)
    have w1 : IntKind.u64.wrap (8 * IntKind.u64.wrap (7 - (i : Int))) = ((8 * (7 - i) : Nat) : Int) := by
      have w : ∀ n : Int, IntKind.u64.wrap n = n % 18446744073709551616 := fun _ => rfl
      rw [w, w]; omega
    have w2 : wrap64 (7 - (i : Int) - 1) = 7 - ((i + 1 : Nat) : Int) := by unfold wrap64; omega
    have sh : shr .u64 v ((8 * (7 - i) : Nat) : Int) = v / 2 ^ (8 * (7 - i)) := by
      unfold shr; rw [Int.toNat_natCast, Nat.min_eq_left (by show 8 * (7 - i) ≤ 64; omega)]
    rw [List.range_succ, List.map_append, List.map_singleton] at rest
    simp only [cofferref05_number.l0]
    rw [w1, w2, sh]
    clear w1 w2 sh
    rw [if_pos (by omega), if_pos (by omega), if_pos (by rw [List.length_map, List.length_range]; omega)]
    exact rest
theorem number_f (v : Int) (k : Nat) (hk : 8 < k) : cofferref05_number.f k v = some (tx (be v 8)) := number_l0 v 8 0 k (by omega) hk
theorem right_f (p : S58) : cofferref05_right.f p.f0 p.f1 p.f2 = some (vld (vc p)) := by
  unfold cofferref05_right.f vld vc
  have hn : (p.f1.toList == []) = (p.f1.toList == ([] : List UInt8)) := rfl
  by_cases h1 : p.f0 = 1
  · rw [if_pos h1]
    by_cases h2 : p.f2 = 0
    · rw [if_pos h2]; simp [h1, h2]
    · rw [if_neg h2, if_neg (by omega), if_neg (by omega)]; simp [h1, h2]
  · rw [if_neg h1]
    by_cases h2 : p.f0 = 2
    · rw [if_pos h2]; simp [h2]
    · rw [if_neg h2]
      by_cases h3 : p.f0 = 3
      · rw [if_pos h3]; simp [h3]
      · rw [if_neg h3]; simp [h1, h2, h3]
theorem one_f (p : S58) (hv : vld (vc p) = true) (hs : p.f1.size ≤ 1048576) : ∃ K, ∀ k, K ≤ k → cofferref05_One.f k p.f0 p.f1 p.f2 = some (tx (encP (vc p))) := by
  obtain ⟨K, hK⟩ := groups_f p.f1.data.toList (Nat.le_trans hs (by decide))
  refine ⟨K + 9, fun k hk => ?_⟩
  have hg : cofferref05_groups.f k p.f1 = some (tx (grp p.f1.data.toList)) := hK k (by omega)
  have ap : ∀ (c : UInt8) (l : List UInt8), (⟨#[c]⟩ : ByteArray) ++ tx l = tx (c :: l) := fun c l => tx_append [c] l
  have hgl := grp_len p.f1.data.toList
  have hl : p.f1.data.toList.length ≤ 1048576 := hs
  unfold cofferref05_One.f
  show _ = some (tx (if p.f0 = 1 then 1 :: grp p.f1.data.toList else if p.f0 = 2 then 2 :: be (numR p.f2) 8 else 3 :: be (numF p.f2) 8))
  by_cases h1 : p.f0 = 1
  · rw [if_pos h1, if_pos h1, hg]
    simp only [Option.bind_some]
    rw [if_pos (by rw [tx_size]; omega), ap]
  · rw [if_neg h1, if_neg h1]
    by_cases h2 : p.f0 = 2
    · rw [if_pos h2, if_pos h2, number_f _ k (by omega)]
      simp only [Option.bind_some]
      rw [if_pos (by rw [tx_size, be_len]; omega), ap]; rfl
    · rw [if_neg h2, if_neg h2, number_f _ k (by omega)]
      simp only [Option.bind_some]
      rw [if_pos (by rw [tx_size, be_len]; omega), ap]; rfl
theorem encV_le (p : S52) (h : p.f1.size ≤ 1048576) : (encP p).length ≤ 2097162 := by
  unfold encP
  split
  · have := grp_len p.f1.data.toList
    have e : p.f1.data.toList.length = p.f1.size := rfl
    rw [List.length_cons]; omega
  · split <;> (rw [List.length_cons, be_len]; omega)
theorem rwrite_l0 (l : List S58) (hl : l.length ≤ 1048576) (hs : ∀ q ∈ l, q.f1.size ≤ 1048576) : ∀ (d i : Nat), i + d = l.length → ((l.take i).map vc).all vld = true → (encL ((l.take i).map vc)).length ≤ 2097162 * i →
    ∃ K, ∀ k, K ≤ k → cofferref05_Write.l0 k l (tx (encL ((l.take i).map vc))) (i : Int) = some (wrF (l.map vc))
  | 0, i, e, hv, hle => by
    refine ⟨1, fun k hk => ?_⟩
    obtain ⟨k, rfl⟩ : ∃ q, k = q + 1 := ⟨k - 1, by omega⟩
    rw [List.take_of_length_le (by omega)] at hv ⊢
    simp only [cofferref05_Write.l0]
    rw [if_neg (by omega)]
    unfold wrF
    rw [if_pos hv]; rfl
  | d + 1, i, e, hv, hle => by
    have hi : i < l.length := by omega
    have hq := hs l[i] (List.getElem_mem hi)
    have htk : (l.take (i + 1)).map vc = (l.take i).map vc ++ [vc l[i]] := by rw [List.take_succ_eq_append_getElem hi, List.map_append, List.map_singleton]
    by_cases hg : vld (vc l[i]) = true
    · have hv' : ((l.take (i + 1)).map vc).all vld = true := by rw [htk, List.all_append, hv]; simp [hg]
      have he : encL ((l.take (i + 1)).map vc) = encL ((l.take i).map vc) ++ encP (vc l[i]) := by
        rw [htk, encL_append, encL_cons _ _ hg]
        show encL _ ++ (encP (vc l[i]) ++ []) = _
        rw [List.append_nil]
      have hp := encV_le (vc l[i]) hq
      obtain ⟨K, hK⟩ := rwrite_l0 l hl hs d (i + 1) (by omega) hv' (by rw [he, List.length_append]; omega)
      obtain ⟨K1, hK1⟩ := one_f l[i] hg hq
      refine ⟨K + K1 + 1, fun k hk => ?_⟩
      obtain ⟨k, rfl⟩ : ∃ q, k = q + 1 := ⟨k - 1, by omega⟩
      simp only [cofferref05_Write.l0]
      rw [if_pos (by omega), if_pos (by omega), rd58 l i hi, right_f, hg]
      simp only [Option.bind_some]
      rw [if_pos trivial, hK1 k (by omega)]
      simp only [Option.bind_some]
      rw [if_pos (by rw [tx_size, tx_size]; omega), tx_append, ← he, w64_succ i (by omega)]
      exact hK k (by omega)
    · refine ⟨1, fun k hk => ?_⟩
      obtain ⟨k, rfl⟩ : ∃ q, k = q + 1 := ⟨k - 1, by omega⟩
      have hf : vld (vc l[i]) = false := by simpa using hg
      simp only [cofferref05_Write.l0]
      rw [if_pos (by omega), if_pos (by omega), rd58 l i hi, right_f, hf]
      simp only [Option.bind_some]
      rw [if_neg (by decide)]
      unfold wrF
      rw [if_neg (by
        intro ha
        have := List.all_eq_true.1 ha (vc l[i]) (List.mem_map.2 ⟨_, List.getElem_mem hi, rfl⟩)
        exact hg this)]
theorem rwrite_f (l : List S58) (hl : l.length ≤ 1048576) (hs : ∀ q ∈ l, q.f1.size ≤ 1048576) : ∃ K, ∀ k, K ≤ k → cofferref05_Write.f k l = some (wrF (l.map vc)) := by
  have := rwrite_l0 l hl hs l.length 0 (by omega) rfl (by simp [encL])
  exact this
end Go.Proofs.Ytbohpjbcjnapfaa.TupM
