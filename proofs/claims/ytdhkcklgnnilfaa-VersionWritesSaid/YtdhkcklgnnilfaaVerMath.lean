/- The bytes of a version, and what reading them gives: plain mathematics of chapter 13. -/
import Derived.Test.YtdhkcklgnnilfaaX8
import Derived.Test.YtdhkcklgnnilfaaX9
import Derived.Test.YtdhkcklgnnilfaaX21
import Derived.Test.YtdhkcklgnnilfaaVerLink
import Derived.Test.YtdhkcklgnnilfaaNamesLink
namespace Go.Proofs.Ytdhkcklgnnilfaa.Link
set_option linter.unusedVariables false
set_option linter.unusedSimpArgs false
open Go.RowKit Go.Proofs.Ytdhkcklgnnilfaa.X Go.Proofs.YtdhkcklgnnilfaaW.PrintWords Go.Proofs.YtdhkcklgnnilfaaW.PrintLast Go.Proofs.YtdhkcklgnnilfaaW.PrintMore

theorem toList_data (s : ByteArray) : s.toList = s.data.toList := Go.ByteArray.toList_eq s
theorem toList_inj {a b : ByteArray} (h : a.toList = b.toList) : a = b := by
  rw [toList_data, toList_data] at h
  cases a; cases b
  simp only [ByteArray.mk.injEq]
  exact Array.toList_inj.1 h
theorem son_append (xs ys : List Int) : strOfNums (xs ++ ys) = strOfNums xs ++ strOfNums ys := by
  apply toList_inj
  rw [toList_data, toList_data]
  simp [strOfNums]
theorem son_bytesOf (s : ByteArray) : strOfNums (bytesOf s) = s := by
  apply toList_inj
  rw [toList_data, toList_data]
  unfold strOfNums bytesOf
  simp only [List.map_map]
  have : (fun b : UInt8 => UInt8.ofNat ((b.toNat : Int)).toNat) = id := by funext b; simp
  have h2 : ((fun x : Int => UInt8.ofNat x.toNat) ∘ fun b : UInt8 => (b.toNat : Int)) = id := by funext b; simp
  simp [h2]
theorem son_size (xs : List Int) : (strOfNums xs).size = xs.length := by
  rw [← data_length]; simp [strOfNums]
/-- The last bytes of a number, the highest first. -/
def be : Nat → Int → List Int
  | 0, _ => []
  | n + 1, v => (v / 256 ^ n % 256) :: be n v
theorem be_length (n : Nat) (v : Int) : (be n v).length = n := by
  induction n with
  | zero => rfl
  | succ n ih => simp [be, ih]
theorem put_l0 (v : Int) (n : Nat) : ∀ (k : Nat) (xs : List Int), n ≤ 8 → n < k → xs.length + n < 140737488355328 → version_put.l0 k xs v ((n : Int) - 1) = some (xs ++ be n v) := by
  induction n with
  | zero =>
    intro k xs h8 hk hl
    obtain ⟨k, rfl⟩ : ∃ q, k = q + 1 := ⟨k - 1, by omega⟩
    simp only [version_put.l0]
    rw [if_neg (by omega)]; simp [be]
  | succ n ih =>
    intro k xs h8 hk hl
    obtain ⟨k, rfl⟩ : ∃ q, k = q + 1 := ⟨k - 1, by omega⟩
    have hw : wrap64 (8 * (((n + 1 : Nat) : Int) - 1)) = ((8 * n : Nat) : Int) := by unfold wrap64; omega
    have hw2 : wrap64 (((n + 1 : Nat) : Int) - 1 - 1) = (n : Int) - 1 := by unfold wrap64; omega
    have hs : shr .i64 v ((8 * n : Nat) : Int) = v / 256 ^ n := by
      unfold shr
      have : min (((8 * n : Nat) : Int)).toNat IntKind.i64.bits = 8 * n := by
        show min _ 64 = _
        rw [Int.toNat_natCast]; omega
      rw [this, Int.pow_mul]; rfl
    simp only [version_put.l0]
    rw [if_pos (by omega), hw, if_pos (by omega), if_pos (by omega), hs, hw2, ih k _ (by omega) (by omega) (by simp; omega)]
    simp [be]
theorem put_eq (k n : Nat) (xs : List Int) (v : Int) (h8 : n ≤ 8) (hk : n < k) (hl : xs.length + n < 140737488355328) : version_put.f k xs v n = some (xs ++ be n v) := by
  unfold version_put.f
  have hw : wrap64 ((n : Int) - 1) = (n : Int) - 1 := by unfold wrap64; omega
  rw [hw]
  exact put_l0 v n k xs h8 hk hl
def encP (p : S31) : List Int := ((p.f0.size : Int) % 256) :: (bytesOf p.f0 ++ ((p.f1.size : Int) % 256) :: bytesOf p.f1)
/-- What stands behind the key of a version that is no marker. -/
def encT (d : ByteArray) (l : List S31) : List Int := be 2 (d.size : Int) ++ (bytesOf d ++ (((l.length : Int) % 256) :: l.flatMap encP))
/-- A version's bytes. -/
def encV (a : ByteArray) (q : Int) (m : Bool) (d : ByteArray) (l : List S31) : List Int :=
  (if m then 1 else 0) :: (be 8 q ++ (((a.size : Int) % 256) :: (bytesOf a ++ if m then [] else encT d l)))
theorem flat_len (l : List S31) (h : ∀ p ∈ l, p.f0.size ≤ 16 ∧ p.f1.size ≤ 64) : (l.flatMap encP).length ≤ 82 * l.length := by
  induction l with
  | nil => simp
  | cons p l ih =>
    have := ih fun q hq => h q (List.mem_cons_of_mem _ hq)
    have hp := h p (List.mem_cons_self ..)
    simp [encP, bytesOf_length] at this ⊢
    omega
theorem write_l0 (xs : List S31) (hx : xs.length ≤ 8) (hp : ∀ p ∈ xs, p.f0.size ≤ 16 ∧ p.f1.size ≤ 64) (d : Nat) : ∀ (k i : Nat) (b : List Int), i + d = xs.length → d < k → b.length + 82 * d ≤ 100000 →
    version_Write.l0 k b xs (xs.length : Int) (i : Int) = some (strOfNums (b ++ (xs.drop i).flatMap encP), 0) := by
  induction d with
  | zero =>
    intro k i b h hk hb
    obtain ⟨k, rfl⟩ : ∃ q, k = q + 1 := ⟨k - 1, by omega⟩
    simp only [version_Write.l0]
    rw [if_neg (by omega), List.drop_of_length_le (by omega)]; simp
  | succ d ih =>
    intro k i b h hk hb
    obtain ⟨k, rfl⟩ : ∃ q, k = q + 1 := ⟨k - 1, by omega⟩
    have hlt : i < xs.length := by omega
    have hw : wrap64 ((i : Int) + 1) = ((i + 1 : Nat) : Int) := by unfold wrap64; omega
    have hq := hp xs[i] (List.getElem_mem hlt)
    simp only [version_Write.l0]
    rw [if_pos (by omega), if_pos (by omega), if_pos (by omega), rd_at xs i hlt, if_pos (by omega)]
    simp only [Option.bind_some, List.length_append, List.length_cons, List.length_nil, bytesOf_length]
    rw [if_pos (by omega), if_pos (by omega), if_pos (by omega), hw, ih k (i + 1) _ (by omega) (by omega) (by simp [bytesOf_length]; omega), List.drop_eq_getElem_cons hlt]
    simp only [encP, List.flatMap_cons, List.append_assoc, List.cons_append, List.nil_append]
/-- The error of a version; 0: it is right. -/
def errV (a : ByteArray) (q : Int) (m : Bool) (d : ByteArray) (l : List S31) : Int :=
  if q < 1 ∨ 1099511627776 < q then 1
  else if a.size = 0 ∨ 32 < a.size then 61
  else if 1024 < d.size ∨ m = true ∧ d.size ≠ 0 then 63
  else if metaOk l = false ∨ m = true ∧ l ≠ [] then 62 else 0
theorem metaOk_sizes {l : List S31} (h : metaOk l = true) : l.length ≤ 8 ∧ ∀ p ∈ l, p.f0.size ≤ 16 ∧ p.f1.size ≤ 64 ∧ p.f0.size ≠ 0 := by
  obtain ⟨h1, h2, _⟩ := (metaOk_iff l).1 h
  refine ⟨h1, fun p hp => ?_⟩
  have := h2 p hp
  unfold pairB smallB at this
  simp only [Bool.and_eq_true, decide_eq_true_eq, Bool.not_eq_true', ← Bool.not_eq_true, empty_iff] at this
  omega
theorem key_err (a : ByteArray) : names_Key.f a = some (if a.size = 0 ∨ 32 < a.size then 61 else 0) := by
  unfold names_Key.f
  by_cases h : a.size = 0
  · rw [if_pos ((nil_iff a).2 h), if_pos (.inl h)]
  · rw [if_neg (fun e => h ((nil_iff a).1 e))]
    by_cases h2 : 32 < a.size
    · rw [if_pos (by omega), if_pos (.inr h2)]
    · rw [if_neg (by omega), if_neg (by omega)]
theorem data_err (a : ByteArray) : names_Data.f a = some (if 1024 < a.size then 63 else 0) := by
  unfold names_Data.f
  by_cases h2 : 1024 < a.size
  · rw [if_pos (by omega), if_pos h2]
  · rw [if_neg (by omega), if_neg h2]
theorem version_err (k : Nat) (a : ByteArray) (q : Int) (m : Bool) (d : ByteArray) (l : List S31) (hl : l.length ≤ 140737488351232) (hk : l.length + 1 < k) (hq : ¬ (q < 1 ∨ 1099511627776 < q)) : names_Version.f k a q m d l = some (errV a q m d l) := by
  obtain ⟨k, rfl⟩ : ∃ q, k = q + 1 := ⟨k - 1, by omega⟩
  unfold names_Version.f errV
  rw [key_err, if_neg hq]
  simp only [Option.bind_some]
  by_cases h1 : a.size = 0 ∨ 32 < a.size
  · rw [if_pos h1, if_pos h1, if_neg (by decide)]
  · rw [if_neg h1, if_neg h1, if_pos rfl, data_err]
    simp only [Option.bind_some]
    by_cases h2 : 1024 < d.size
    · rw [if_pos h2, if_neg (by decide), if_pos (.inl h2)]; simp [names_Version.j0]
    · rw [if_neg h2, if_pos rfl]
      have hm := meta_eq l hl k (by omega)
      cases m
      · rw [if_neg (by decide), if_neg (by simp [h2])]
        simp only [names_Version.j0]
        rw [if_neg (by decide), hm]
        simp only [Option.bind_some]
        by_cases h3 : metaOk l = true
        · simp [h3]
        · simp [h3]
      · rw [if_pos rfl]
        by_cases h4 : d.size = 0
        · have e : (d.toList != ([] : List UInt8)) = false := by simp [(nil_iff d).2 h4]
          rw [e, if_neg (by simp [h2, h4])]
          simp only [names_Version.j0]
          rw [if_neg (by decide), hm]
          simp only [Option.bind_some]
          by_cases h3 : metaOk l = true
          · cases l with
            | nil => simp [h3]
            | cons p l => simp [h3]
          · simp [h3]
        · have e : (d.toList != ([] : List UInt8)) = true := by simp [nil_iff, h4]
          rw [e, if_pos (.inr ⟨rfl, h4⟩)]
          simp [names_Version.j0]
/-- Write of every version. -/
theorem write_eq (a : ByteArray) (q : Int) (m : Bool) (d : ByteArray) (l : List S31) (hl : l.length ≤ 140737488351232) (k : Nat) (hk : l.length + 20 < k) :
    version_Write.f k a q m d l = some (if errV a q m d l = 0 then (strOfNums (encV a q m d l), 0) else ((⟨#[]⟩ : ByteArray), errV a q m d l)) := by
  obtain ⟨k, rfl⟩ : ∃ q, k = q + 2 := ⟨k - 2, by omega⟩
  unfold version_Write.f
  by_cases hq : q < 1 ∨ 1099511627776 < q
  · have he : errV a q m d l = 1 := by unfold errV; rw [if_pos hq]
    rw [he, if_neg (show ¬ ((1 : Int) = 0) by decide)]
    rcases hq with h | h
    · rw [if_pos h]; rfl
    · rw [if_neg (by omega), show decide (q > 1099511627776) = true by simp; omega]; rfl
  · rw [if_neg (by omega), show decide (q > 1099511627776) = false by simp; omega]
    simp only [version_Write.j0]
    rw [if_neg (by decide), version_err (k + 1) a q m d l hl (by omega) hq]
    simp only [Option.bind_some]
    by_cases he : errV a q m d l = 0
    · rw [if_pos he, if_pos he]
      have hh := he
      unfold errV at hh
      rw [if_neg hq] at hh
      by_cases h1 : a.size = 0 ∨ 32 < a.size
      · rw [if_pos h1] at hh; exact absurd hh (by decide)
      rw [if_neg h1] at hh
      by_cases h2 : 1024 < d.size ∨ m = true ∧ d.size ≠ 0
      · rw [if_pos h2] at hh; exact absurd hh (by decide)
      rw [if_neg h2] at hh
      by_cases h3 : metaOk l = false ∨ m = true ∧ l ≠ []
      · rw [if_pos h3] at hh; exact absurd hh (by decide)
      have h4 := metaOk_sizes (l := l) (by cases hz : metaOk l <;> simp_all)
      have hj (x : Int) (hx : x = if m then 1 else 0) : version_Write.j1 (k + 1) x a q m d l = some (strOfNums (encV a q m d l), 0) := by
        simp only [version_Write.j1]
        have hp8 : version_put.f k [x] q 8 = _ := put_eq k 8 [x] q (by omega) (by omega) (by simp)
        rw [hp8]
        simp only [Option.bind_some, List.length_append, List.length_cons, List.length_nil, be_length]
        rw [if_pos (by omega), if_pos (by omega)]
        cases m
        · have hp2 : version_put.f k ([x] ++ be 8 q ++ [(a.size : Int) % 256] ++ bytesOf a) (d.size : Int) 2 = _ := put_eq k 2 _ (d.size : Int) (by omega) (by omega) (by simp [be_length, bytesOf_length]; omega)
          rw [if_neg (by decide), hp2]
          simp only [Option.bind_some, List.length_append, List.length_cons, List.length_nil, be_length, bytesOf_length]
          rw [if_pos (by omega), if_pos (by omega)]
          have := write_l0 l (by omega) (fun p hp => ⟨(h4.2 p hp).1, (h4.2 p hp).2.1⟩) l.length k 0 ((([x] ++ be 8 q ++ [(a.size : Int) % 256] ++ bytesOf a) ++ be 2 (d.size : Int) ++ bytesOf d) ++ [(l.length : Int) % 256]) (by omega) (by omega) (by simp [be_length, bytesOf_length]; omega)
          rw [List.drop_zero] at this
          refine (this.trans ?_)
          simp [encV, encT, hx]
        · rw [if_pos rfl]
          simp [encV, hx]
      cases m
      · rw [if_neg (by decide)]; exact hj 0 rfl
      · rw [if_pos rfl]; exact hj 1 rfl
    · rw [if_neg he, if_neg he]

theorem or_add (z c : Int) (h0 : 0 ≤ z) (h1 : z < 18014398509481984) (h2 : 0 ≤ c) (h3 : c < 256) : Go.bits .or .i64 (wrap64 (z * 256)) c = z * 256 + c := by
  have l : Go.bits .or .i64 (wrap64 (z * 256)) c = IntKind.i64.wrap ((BitVec.ofInt 64 (wrap64 (z * 256)) ||| BitVec.ofInt 64 c).toNat : Int) := rfl
  obtain ⟨a, rfl⟩ := Int.eq_ofNat_of_zero_le h0
  obtain ⟨b, rfl⟩ := Int.eq_ofNat_of_zero_le h2
  have hw : wrap64 ((a : Int) * 256) = ((a * 256 : Nat) : Int) := by unfold wrap64; omega
  rw [l, hw, BitVec.toNat_or, BitVec.ofInt_natCast, BitVec.ofInt_natCast, BitVec.toNat_ofNat, BitVec.toNat_ofNat, Nat.mod_eq_of_lt (by omega), Nat.mod_eq_of_lt (by omega)]
  have : a * 256 ||| b = a * 256 + b := by
    have := Nat.two_pow_add_eq_or_of_lt (i := 8) (b := b) (by omega) a
    rw [Nat.mul_comm] at this
    exact this.symm
  rw [this, i64_w]; unfold wrap64; omega
theorem pow_le (m n : Nat) (h : m ≤ n) : (256 : Int) ^ m ≤ 256 ^ n := by
  induction h with
  | refl => exact Int.le_refl _
  | step h ih =>
    rename_i n
    have : (0 : Int) < 256 ^ n := Int.pow_pos (by decide)
    rw [Int.pow_succ]; omega
theorem vfold_range (t : ByteArray) (m : Nat) (hm : m ≤ 6) : 0 ≤ vfold t m ∧ vfold t m < 256 ^ m := by
  induction m with
  | zero => simp [vfold]
  | succ m ih =>
    have ih := ih (by omega)
    have hb := bt_range t (m : Int)
    have : (256 : Int) ^ m ≤ 256 ^ 6 := pow_le m 6 (by omega)
    have e : (256 : Int) ^ 6 = 281474976710656 := by decide
    simp only [vfold]
    rw [or_add _ _ ih.1 (by omega) hb.1 (by omega), Int.pow_succ]
    omega
theorem be_getD (n : Nat) (q : Int) : ∀ m : Nat, m < n → (be n q)[m]? = some (q / 256 ^ (n - 1 - m) % 256) := by
  induction n with
  | zero => intro m h; omega
  | succ n ih =>
    intro m h
    cases m with
    | zero => simp [be]
    | succ m =>
      rw [be, List.getElem?_cons_succ, ih m (by omega)]
      congr 4; omega
theorem bt_son (xs : List Int) (i : Nat) (c : Int) (h : xs[i]? = some c) (h0 : 0 ≤ c) (h1 : c < 256) : bt (strOfNums xs) (i : Int) = c := by
  obtain ⟨hi, hc⟩ := List.getElem?_eq_some_iff.1 h
  unfold bt
  rw [dif_pos (by rw [son_size]; omega)]
  have : (strOfNums xs)[(i : Int).toNat]'(by rw [son_size]; omega) = UInt8.ofNat c.toNat := by
    show (strOfNums xs).data[i]'_ = _
    simp [strOfNums, hc]
  rw [this]
  simp; omega
theorem vfold_be (n : Nat) (q : Int) (hn : n ≤ 8) (h0 : 0 ≤ q) (h1 : q < 281474976710656) (hq : q < 256 ^ n) : ∀ m : Nat, m ≤ n → vfold (strOfNums (be n q)) m = q / 256 ^ (n - m) := by
  intro m
  induction m with
  | zero =>
    intro h
    simp only [vfold]
    rw [Nat.sub_zero, Int.ediv_eq_zero_of_lt h0 hq]
  | succ m ih =>
    intro h
    have hg := be_getD n q m (by omega)
    have hm := Int.emod_nonneg (q / 256 ^ (n - 1 - m)) (by decide : (256 : Int) ≠ 0)
    have hm2 := Int.emod_lt_of_pos (q / 256 ^ (n - 1 - m)) (by decide : (0 : Int) < 256)
    have e1 : n - m = (n - (m + 1)) + 1 := by omega
    have e2 : n - 1 - m = n - (m + 1) := by omega
    simp only [vfold]
    rw [bt_son _ m _ hg hm hm2, ih (by omega), e1, e2, Int.pow_succ, ← Int.ediv_ediv_of_nonneg (by apply Int.le_of_lt; exact Int.pow_pos (by decide))]
    have hz : 0 ≤ q / 256 ^ (n - (m + 1)) := Int.ediv_nonneg h0 (Int.le_of_lt (Int.pow_pos (by decide)))
    have hz2 : q / 256 ^ (n - (m + 1)) ≤ q := Int.ediv_le_self _ h0
    rw [e2] at hm hm2
    generalize q / 256 ^ (n - (m + 1)) = z at *
    rw [or_add (z / 256) (z % 256) (by omega) (by omega) (by omega) (by omega)]
    omega
theorem extract_l (x y : ByteArray) : (x ++ y).extract 0 x.size = x := by
  apply toList_inj
  rw [toList_data, toList_data]
  simp only [ByteArray.data_extract, ByteArray.data_append, show x.size = x.data.size from rfl, show (x ++ y).size = x.data.size + y.data.size from ByteArray.size_append ..]
  simp
  exact List.take_of_length_le (by rw [data_length]; omega)
theorem extract_r (x y : ByteArray) : (x ++ y).extract x.size (x ++ y).size = y := by
  apply toList_inj
  rw [toList_data, toList_data]
  simp only [ByteArray.data_extract, ByteArray.data_append, show x.size = x.data.size from rfl, show (x ++ y).size = x.data.size + y.data.size from ByteArray.size_append ..]
  simp
  rw [List.drop_of_length_le (by rw [data_length]; omega), List.take_nil, List.nil_append, List.take_of_length_le (by rw [data_length]; omega)]
theorem text_app (x y : ByteArray) : version_reader_text.f (x ++ y) false (x.size : Int) = some (x, y, false) := by
  unfold version_reader_text.f
  have hs : (x ++ y).size = x.size + y.size := ByteArray.size_append ..
  rw [if_neg (by decide), if_neg (by omega), if_pos (by omega), if_pos (by omega), Int.toNat_natCast, extract_l, extract_r]
theorem number_app (n : Nat) (q : Int) (y : ByteArray) (hn : n ≤ 8) (h0 : 0 ≤ q) (h1 : q < 281474976710656) (hq : q < 256 ^ n) : version_reader_number.f (strOfNums (be n q) ++ y) false (n : Int) = some (q, y, false) := by
  have hs : ((strOfNums (be n q)).size : Int) = n := by rw [son_size, be_length]
  have ht := text_app (strOfNums (be n q)) y
  rw [hs] at ht
  unfold version_reader_number.f
  rw [if_pos (by omega), ht]
  simp only [Option.bind_some]
  have hz : (strOfNums (be n q)).size = n := by omega
  rw [hz, vfold_be n q hn h0 h1 hq n (Nat.le_refl _)]
  simp
theorem be_one (c : Int) (h0 : 0 ≤ c) (h1 : c < 256) : be 1 c = [c] := by
  simp [be]; omega
theorem number_one (c : Int) (y : ByteArray) (h0 : 0 ≤ c) (h1 : c < 256) : version_reader_number.f (strOfNums [c] ++ y) false 1 = some (c, y, false) := by
  have := number_app 1 c y (by omega) h0 (by omega) (by omega)
  rw [be_one c h0 h1] at this
  exact this
theorem number_tells (s : ByteArray) (b : Bool) (n : Nat) (h : n ≤ 6) : ∃ x r c, version_reader_number.f s b (n : Int) = some (x, r, c) ∧ 0 ≤ x ∧ x < 256 ^ n := by
  obtain ⟨t, r, c, ht, hc⟩ := text_some s b (n : Int) (by omega)
  have hs := version_reader_text_size ht
  simp only [Int.toNat_natCast] at hs
  unfold version_reader_number.f
  rw [if_pos (by omega), ht]
  have hr := vfold_range t t.size (by omega)
  have hp : (256 : Int) ^ t.size ≤ 256 ^ n := pow_le _ _ hs
  exact ⟨_, _, _, rfl, hr.1, by simp only; omega⟩
theorem number_any (s : ByteArray) (b : Bool) (n : Int) (h0 : 0 ≤ n) (h : n ≤ 8) : ∃ x r c, version_reader_number.f s b n = some (x, r, c) := by
  obtain ⟨t, r, c, ht, hc⟩ := text_some s b n h0
  unfold version_reader_number.f
  rw [if_pos (by omega), ht]
  exact ⟨_, _, _, rfl⟩
abbrev Out := ByteArray × Int × Bool × ByteArray × (List S31) × Int
def nul : Out := ((⟨#[]⟩ : ByteArray), 0, false, (⟨#[]⟩ : ByteArray), ([] : List S31), 4)
/-- What Read gives, where it gives a version: a right one, whose bytes the text is. -/
def Good (x0 : ByteArray) (o : Out) : Prop := o = nul ∨ ∃ a q m d l, o = (a, q, m, d, l, 0) ∧ errV a q m d l = 0 ∧ strOfNums (encV a q m d l) = x0
/-- The end of Read: what was read is written, and put against the text. -/
def fin (x0 : ByteArray) (short : Bool) (a : ByteArray) (q : Int) (m : Bool) (d : ByteArray) (l : List S31) : Out :=
  if short = true then nul else if errV a q m d l = 0 then (if strOfNums (encV a q m d l) = x0 then (a, q, m, d, l, 0) else nul) else nul
theorem fin_good (x0 : ByteArray) (s : Bool) (a : ByteArray) (q : Int) (m : Bool) (d : ByteArray) (l : List S31) : Good x0 (fin x0 s a q m d l) := by
  unfold fin Good
  split
  · exact .inl rfl
  · split
    · split
      · exact .inr ⟨_, _, _, _, _, rfl, by assumption, by assumption⟩
      · exact .inl rfl
    · exact .inl rfl
theorem fin_eq (x0 : ByteArray) (s : Bool) (a : ByteArray) (q : Int) (m : Bool) (d : ByteArray) (l : List S31) (hl : l.length ≤ 140737488351232) (k : Nat) (hk : l.length + 20 < k) :
    ((version_Write.f k a q m d l).bind fun bt230 => (if s = true then (some ((⟨#[]⟩ : ByteArray), (0 : Int), false, (⟨#[]⟩ : ByteArray), ([] : List (S31)), (4 : Int))) else (if bt230.2 = 0 then (if bt230.1.toList = x0.toList then (some (a, q, m, d, l, (0 : Int))) else (some ((⟨#[]⟩ : ByteArray), 0, false, (⟨#[]⟩ : ByteArray), ([] : List (S31)), 4))) else (some ((⟨#[]⟩ : ByteArray), 0, false, (⟨#[]⟩ : ByteArray), ([] : List (S31)), 4))))) = some (fin x0 s a q m d l) := by
  rw [write_eq a q m d l hl k hk]
  simp only [Option.bind_some]
  unfold fin
  by_cases hs : s = true
  · rw [if_pos hs, if_pos hs]; rfl
  · rw [if_neg hs, if_neg hs]
    by_cases he : errV a q m d l = 0
    · rw [if_pos he, if_pos he]
      rw [if_pos rfl]
      by_cases h : strOfNums (encV a q m d l) = x0
      · rw [if_pos (by rw [h]), if_pos h]
      · rw [if_neg (fun e => h (toList_inj e)), if_neg h]; rfl
    · rw [if_neg he, if_neg he, if_neg he]; rfl
theorem read_l0 (x0 a : ByteArray) (q : Int) (m : Bool) (d : ByteArray) (n : Nat) (hn : n ≤ 255) (j : Nat) : ∀ (k i : Nat) (r : ByteArray) (c : Bool) (l : List S31), i + j = n → l.length = i → j + 300 < k →
    ∃ o, version_Read.l0 k x0 (n : Int) (i : Int) r c a q m d l = some o ∧ Good x0 o := by
  induction j with
  | zero =>
    intro k i r c l h hl hk
    obtain ⟨k, rfl⟩ : ∃ z, k = z + 1 := ⟨k - 1, by omega⟩
    simp only [version_Read.l0]
    rw [if_neg (by omega)]
    exact ⟨_, fin_eq x0 c a q m d l (by omega) k (by omega), fin_good ..⟩
  | succ j ih =>
    intro k i r c l h hl hk
    obtain ⟨k, rfl⟩ : ∃ z, k = z + 1 := ⟨k - 1, by omega⟩
    have hw : wrap64 ((i : Int) + 1) = ((i + 1 : Nat) : Int) := by unfold wrap64; omega
    obtain ⟨x1, r1, c1, e1, g1, g2⟩ := number_tells r c 1 (by omega)
    obtain ⟨x2, r2, c2, e2, _⟩ := text_some r1 c1 x1 g1
    obtain ⟨x3, r3, c3, e3, g3, g4⟩ := number_tells r2 c2 1 (by omega)
    obtain ⟨x4, r4, c4, e4, _⟩ := text_some r3 c3 x3 g3
    have e1' : version_reader_number.f r c 1 = some (x1, r1, c1) := e1
    have e3' : version_reader_number.f r2 c2 1 = some (x3, r3, c3) := e3
    simp only [version_Read.l0]
    rw [if_pos (by omega), e1']
    simp only [Option.bind_some]
    rw [e2]
    simp only [Option.bind_some]
    rw [e3']
    simp only [Option.bind_some]
    rw [e4]
    simp only [Option.bind_some]
    rw [if_pos (by omega), hw]
    exact ih k (i + 1) _ _ _ (by omega) (by simp [hl]) (by omega)
/-- Read of every text. -/
theorem read_any (b : ByteArray) (k : Nat) (hk : 600 ≤ k) : ∃ o, version_Read.f k b = some o ∧ Good b o := by
  obtain ⟨x1, r1, c1, e1⟩ := number_any b false 1 (by omega) (by omega)
  obtain ⟨x2, r2, c2, e2⟩ := number_any r1 c1 8 (by omega) (by omega)
  obtain ⟨x3, r3, c3, e3, g3, g3'⟩ := number_tells r2 c2 1 (by omega)
  obtain ⟨x4, r4, c4, e4, _⟩ := text_some r3 c3 x3 g3
  have e3' : version_reader_number.f r2 c2 1 = some (x3, r3, c3) := e3
  unfold version_Read.f
  rw [e1]
  simp only [Option.bind_some]
  rw [e2]
  simp only [Option.bind_some]
  rw [e3']
  simp only [Option.bind_some]
  rw [e4]
  simp only [Option.bind_some]
  by_cases h1 : x1 = 1
  · rw [if_pos h1]
    exact ⟨_, fin_eq b c4 x4 x2 (x1 == 1) _ [] (by simp) k (by simp; omega), fin_good ..⟩
  · rw [if_neg h1]
    obtain ⟨x5, r5, c5, e5, g5, g5'⟩ := number_tells r4 c4 2 (by omega)
    obtain ⟨x6, r6, c6, e6, _⟩ := text_some r5 c5 x5 g5
    obtain ⟨x7, r7, c7, e7, g7, g7'⟩ := number_tells r6 c6 1 (by omega)
    have e5' : version_reader_number.f r4 c4 2 = some (x5, r5, c5) := e5
    have e7' : version_reader_number.f r6 c6 1 = some (x7, r7, c7) := e7
    rw [e5']
    simp only [Option.bind_some]
    rw [e6]
    simp only [Option.bind_some]
    rw [e7']
    simp only [Option.bind_some]
    obtain ⟨n, rfl⟩ := Int.eq_ofNat_of_zero_le g7
    exact read_l0 b x4 x2 (x1 == 1) x6 n (by simp at g7'; omega) n k 0 r7 c7 [] (by omega) rfl (by simp at g7'; omega)
theorem encP_read (p : S31) (y : ByteArray) (h0 : p.f0.size ≤ 16) (h1 : p.f1.size ≤ 64) : ∃ u v w, version_reader_number.f (strOfNums (encP p) ++ y) false 1 = some ((p.f0.size : Int), u, false) ∧ version_reader_text.f u false (p.f0.size : Int) = some (p.f0, v, false) ∧ version_reader_number.f v false 1 = some ((p.f1.size : Int), w, false) ∧ version_reader_text.f w false (p.f1.size : Int) = some (p.f1, y, false) := by
  have e : strOfNums (encP p) ++ y = strOfNums [(p.f0.size : Int)] ++ (p.f0 ++ (strOfNums [(p.f1.size : Int)] ++ (p.f1 ++ y))) := by
    have h2 : encP p = [(p.f0.size : Int)] ++ (bytesOf p.f0 ++ ([(p.f1.size : Int)] ++ bytesOf p.f1)) := by
      unfold encP
      rw [Int.emod_eq_of_lt (by omega) (by omega), Int.emod_eq_of_lt (by omega) (by omega)]; rfl
    rw [h2, son_append, son_append, son_append, son_bytesOf, son_bytesOf]
    simp only [ByteArray.append_assoc]
  rw [e]
  exact ⟨_, _, _, number_one _ _ (by omega) (by omega), text_app _ _, number_one _ _ (by omega) (by omega), text_app _ _⟩
theorem read_l0_enc (x0 a : ByteArray) (q : Int) (d : ByteArray) (rest : ByteArray) (l : List S31) (hl : l.length ≤ 8) (hp : ∀ p ∈ l, p.f0.size ≤ 16 ∧ p.f1.size ≤ 64) (j : Nat) : ∀ (k i : Nat), i + j = l.length → j + 100 < k →
    version_Read.l0 k x0 (l.length : Int) (i : Int) (strOfNums ((l.drop i).flatMap encP) ++ rest) false a q false d (l.take i) = some (fin x0 false a q false d l) := by
  induction j with
  | zero =>
    intro k i h hk
    obtain ⟨k, rfl⟩ : ∃ z, k = z + 1 := ⟨k - 1, by omega⟩
    simp only [version_Read.l0]
    rw [if_neg (by omega), List.take_of_length_le (by omega)]
    exact fin_eq x0 false a q false d l (by omega) k (by omega)
  | succ j ih =>
    intro k i h hk
    obtain ⟨k, rfl⟩ : ∃ z, k = z + 1 := ⟨k - 1, by omega⟩
    have hlt : i < l.length := by omega
    have hw : wrap64 ((i : Int) + 1) = ((i + 1 : Nat) : Int) := by unfold wrap64; omega
    have hq := hp l[i] (List.getElem_mem hlt)
    obtain ⟨u, v, w, e1, e2, e3, e4⟩ := encP_read l[i] (strOfNums ((l.drop (i + 1)).flatMap encP) ++ rest) hq.1 hq.2
    have e : strOfNums ((l.drop i).flatMap encP) ++ rest = strOfNums (encP l[i]) ++ (strOfNums ((l.drop (i + 1)).flatMap encP) ++ rest) := by
      rw [List.drop_eq_getElem_cons hlt, List.flatMap_cons, son_append, ByteArray.append_assoc]
    simp only [version_Read.l0]
    rw [if_pos (by omega), e, e1]
    simp only [Option.bind_some]
    rw [e2]
    simp only [Option.bind_some]
    rw [e3]
    simp only [Option.bind_some]
    rw [e4]
    simp only [Option.bind_some]
    rw [if_pos (by rw [List.length_take]; omega), hw]
    have ht : l.take i ++ [(⟨l[i].f0, l[i].f1⟩ : S31)] = l.take (i + 1) := by
      rw [List.take_succ_eq_append_getElem hlt]
    rw [ht]
    exact ih k (i + 1) (by omega) (by omega)
theorem errV_zero {a : ByteArray} {q : Int} {m : Bool} {d : ByteArray} {l : List S31} (he : errV a q m d l = 0) : 1 ≤ q ∧ q ≤ 1099511627776 ∧ a.size ≠ 0 ∧ a.size ≤ 32 ∧ d.size ≤ 1024 ∧ metaOk l = true ∧ (m = true → d = (⟨#[]⟩ : ByteArray) ∧ l = []) := by
  unfold errV at he
  split at he
  · exact absurd he (by decide)
  split at he
  · exact absurd he (by decide)
  split at he
  · exact absurd he (by decide)
  split at he
  · exact absurd he (by decide)
  rename_i h1 h2 h3 h4
  refine ⟨by omega, by omega, by omega, by omega, by omega, by cases hz : metaOk l <;> simp_all, fun hm => ⟨?_, ?_⟩⟩
  · have : d.size = 0 := by
      by_cases hz : d.size = 0
      · exact hz
      · exact absurd (.inr ⟨hm, hz⟩) h3
    apply toList_inj
    rw [(nil_iff d).2 this, toList_data]
  · by_cases hz : l = []
    · exact hz
    · exact absurd (.inr ⟨hm, hz⟩) h4
/-- Read of a right version's bytes, with anything behind them. -/
theorem read_enc (a : ByteArray) (q : Int) (m : Bool) (d : ByteArray) (l : List S31) (rest : ByteArray) (he : errV a q m d l = 0) (k : Nat) (hk : 600 ≤ k) :
    version_Read.f k (strOfNums (encV a q m d l) ++ rest) = some (fin (strOfNums (encV a q m d l) ++ rest) false a q m d l) := by
  obtain ⟨q1, q2, a0, a1, d1, ml, mm⟩ := errV_zero he
  have hl := metaOk_sizes ml
  generalize hx : strOfNums (encV a q m d l) ++ rest = x0
  cases m
  · have e : x0 = strOfNums [0] ++ (strOfNums (be 8 q) ++ (strOfNums [(a.size : Int)] ++ (a ++ (strOfNums (be 2 (d.size : Int)) ++ (d ++ (strOfNums [(l.length : Int)] ++ (strOfNums (l.flatMap encP) ++ rest))))))) := by
      rw [← hx]
      have : encV a q false d l = [0] ++ (be 8 q ++ ([(a.size : Int)] ++ (bytesOf a ++ (be 2 (d.size : Int) ++ (bytesOf d ++ ([(l.length : Int)] ++ l.flatMap encP)))))) := by
        unfold encV encT
        rw [Int.emod_eq_of_lt (by omega) (by omega), Int.emod_eq_of_lt (by omega) (by omega)]; rfl
      rw [this]
      simp only [son_append, son_bytesOf, ByteArray.append_assoc]
    have n1 := number_one 0 (strOfNums (be 8 q) ++ (strOfNums [(a.size : Int)] ++ (a ++ (strOfNums (be 2 (d.size : Int)) ++ (d ++ (strOfNums [(l.length : Int)] ++ (strOfNums (l.flatMap encP) ++ rest))))))) (by omega) (by omega)
    have n2 := number_app 8 q (strOfNums [(a.size : Int)] ++ (a ++ (strOfNums (be 2 (d.size : Int)) ++ (d ++ (strOfNums [(l.length : Int)] ++ (strOfNums (l.flatMap encP) ++ rest)))))) (by omega) (by omega) (by omega) (by omega)
    have n3 := number_one (a.size : Int) (a ++ (strOfNums (be 2 (d.size : Int)) ++ (d ++ (strOfNums [(l.length : Int)] ++ (strOfNums (l.flatMap encP) ++ rest))))) (by omega) (by omega)
    have n5 := number_app 2 (d.size : Int) (d ++ (strOfNums [(l.length : Int)] ++ (strOfNums (l.flatMap encP) ++ rest))) (by omega) (by omega) (by omega) (by omega)
    have n7 := number_one (l.length : Int) (strOfNums (l.flatMap encP) ++ rest) (by omega) (by omega)
    rw [← e] at n1
    have n2' : version_reader_number.f _ false 8 = _ := n2
    have n5' : version_reader_number.f _ false 2 = _ := n5
    unfold version_Read.f
    rw [n1]
    simp only [Option.bind_some]
    rw [n2']
    simp only [Option.bind_some]
    rw [n3]
    simp only [Option.bind_some]
    rw [text_app]
    simp only [Option.bind_some]
    rw [if_neg (by decide), n5']
    simp only [Option.bind_some]
    rw [text_app]
    simp only [Option.bind_some]
    rw [n7]
    simp only [Option.bind_some]
    have := read_l0_enc x0 a q d rest l hl.1 (fun p hp => ⟨(hl.2 p hp).1, (hl.2 p hp).2.1⟩) l.length k 0 (by omega) (by omega)
    rw [List.drop_zero, List.take_zero] at this
    exact this
  · obtain ⟨rfl, rfl⟩ := mm rfl
    have e : x0 = strOfNums [1] ++ (strOfNums (be 8 q) ++ (strOfNums [(a.size : Int)] ++ (a ++ rest))) := by
      rw [← hx]
      have : encV a q true (⟨#[]⟩ : ByteArray) [] = [1] ++ (be 8 q ++ ([(a.size : Int)] ++ (bytesOf a))) := by
        unfold encV
        rw [Int.emod_eq_of_lt (by omega) (by omega)]; simp
      rw [this]
      simp only [son_append, son_bytesOf, ByteArray.append_assoc]
    have n1 := number_one 1 (strOfNums (be 8 q) ++ (strOfNums [(a.size : Int)] ++ (a ++ rest))) (by omega) (by omega)
    have n2 := number_app 8 q (strOfNums [(a.size : Int)] ++ (a ++ rest)) (by omega) (by omega) (by omega) (by omega)
    have n3 := number_one (a.size : Int) (a ++ rest) (by omega) (by omega)
    rw [← e] at n1
    have n2' : version_reader_number.f _ false 8 = _ := n2
    unfold version_Read.f
    rw [n1]
    simp only [Option.bind_some]
    rw [n2']
    simp only [Option.bind_some]
    rw [n3]
    simp only [Option.bind_some]
    rw [text_app]
    simp only [Option.bind_some]
    rw [if_pos trivial]
    exact fin_eq x0 false a q true _ [] (by simp) k (by simp; omega)
end Go.Proofs.Ytdhkcklgnnilfaa.Link
