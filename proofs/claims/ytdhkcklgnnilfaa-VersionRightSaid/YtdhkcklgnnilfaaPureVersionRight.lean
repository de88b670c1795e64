/- VersionRight: a version that is right but for one thing is refused by that thing's error, the first of them first. No condition beside the row's own. -/
import Derived.Test.YtdhkcklgnnilfaaX3
import Derived.Test.YtdhkcklgnnilfaaX4
import Derived.Test.YtdhkcklgnnilfaaX6
import Derived.Test.YtdhkcklgnnilfaaX7
import Derived.Test.YtdhkcklgnnilfaaX8
import Derived.Test.YtdhkcklgnnilfaaX9
import Derived.Test.YtdhkcklgnnilfaaX23
import Derived.Test.YtdhkcklgnnilfaaX30
namespace Go.Proofs.Ytdhkcklgnnilfaa.Pure
set_option linter.unusedVariables false
set_option linter.unusedSimpArgs false
open Go.RowKit Go.Proofs.Ytdhkcklgnnilfaa.X Go.Proofs.YtdhkcklgnnilfaaW.PrintWords Go.Proofs.YtdhkcklgnnilfaaW.PrintLast

theorem first_true : cofferlaw13_first.f 40 = some true := by decide +kernel
theorem and_range (y : Int) (c : Nat) (h : c < 2 ^ 62) : 0 ≤ Go.bits .and .i64 y (c : Int) ∧ Go.bits .and .i64 y (c : Int) ≤ c := by
  have hc : (BitVec.ofInt 64 (c : Int)).toNat = c := by
    rw [BitVec.toNat_ofInt]; omega
  have e : Go.bits .and .i64 y (c : Int) = IntKind.i64.wrap ((BitVec.ofInt 64 y &&& BitVec.ofInt 64 (c : Int)).toNat : Int) := rfl
  have hl : (BitVec.ofInt 64 y &&& BitVec.ofInt 64 (c : Int)).toNat ≤ c := by
    rw [BitVec.toNat_and, hc]; exact Nat.and_le_right
  rw [e]
  generalize (BitVec.ofInt 64 y &&& BitVec.ofInt 64 (c : Int)).toNat = m at *
  rw [i64_w]
  unfold wrap64
  omega
theorem toList_len (s : ByteArray) : s.toList.length = s.size := by
  rw [Go.ByteArray.toList_eq]; simp
/-- A small name of at most m bytes. -/
theorem empty_iff (s : ByteArray) : s.toList.isEmpty = true ↔ s.size = 0 := by
  rw [List.isEmpty_iff_length_eq_zero, toList_len]
theorem nil_iff (s : ByteArray) : s.toList = ([] : List UInt8) ↔ s.size = 0 := by
  rw [← toList_len, List.length_eq_zero_iff]
theorem key_ok (s : ByteArray) (h0 : s.size ≠ 0) (h : s.size ≤ 32) : names_Key.f s = some 0 := by
  unfold names_Key.f
  rw [if_neg (fun e => h0 ((nil_iff s).1 e)), if_neg (by omega)]
theorem key_long (s : ByteArray) (h : 32 < s.size) : names_Key.f s = some 61 := by
  unfold names_Key.f
  rw [if_neg (fun e => by have := (nil_iff s).1 e; omega), if_pos (by omega)]
theorem key_none : names_Key.f (⟨#[]⟩ : ByteArray) = some 61 := by decide +kernel
theorem data_ok (s : ByteArray) (h : s.size ≤ 1024) : names_Data.f s = some 0 := by
  unfold names_Data.f
  rw [if_neg (by omega)]
theorem data_long (s : ByteArray) (h : 1024 < s.size) : names_Data.f s = some 63 := by
  unfold names_Data.f
  rw [if_pos (by omega)]
/-- Write, where the number is none. -/
theorem write_arg (k : Nat) (a : ByteArray) (q : Int) (m : Bool) (d : ByteArray) (l : List S31) (h : q < 1 ∨ 1099511627776 < q) : version_Write.f (k + 1) a q m d l = some ((⟨#[]⟩ : ByteArray), 1) := by
  unfold version_Write.f
  by_cases h1 : q < 1
  · rw [if_pos h1]; rfl
  · rw [if_neg h1, show decide (q > 1099511627776) = true by simp; omega]; rfl
/-- Write, where the version is wrong. -/
theorem write_wrong (k : Nat) (a : ByteArray) (q : Int) (m : Bool) (d : ByteArray) (l : List S31) (t : Int) (h1 : 1 ≤ q) (h2 : q ≤ 1099511627776) (hv : names_Version.f k a q m d l = some t) (ht : t ≠ 0) : version_Write.f (k + 1) a q m d l = some ((⟨#[]⟩ : ByteArray), t) := by
  unfold version_Write.f
  rw [if_neg (by omega), show decide (q > 1099511627776) = false by simp; omega]
  simp only [version_Write.j0]
  rw [if_neg (by decide), hv]
  simp only [Option.bind_some]
  rw [if_neg ht]
theorem put_8 (k : Nat) (x v : Int) : ∃ t, version_put.f (k + 9) [x] v 8 = some t ∧ t.length = 9 := by
  unfold version_put.f
  rw [show wrap64 (8 - 1) = 7 from by simp [wrap64]]
  simp only [version_put.l0]
  simp [wrap64]
theorem put_2 (k : Nat) (xs : List Int) (v : Int) (h : xs.length ≤ 1000000) : ∃ t, version_put.f (k + 3) xs v 2 = some t ∧ t.length = xs.length + 2 := by
  unfold version_put.f
  rw [show wrap64 (2 - 1) = 1 from by simp [wrap64]]
  simp only [version_put.l0]
  simp [wrap64]
  refine ⟨_, ⟨by omega, by omega, rfl⟩, ?_⟩
  simp
def L2 : List S31 := [(⟨(⟨#[97]⟩ : ByteArray), (⟨#[49]⟩ : ByteArray)⟩ : S31), (⟨(⟨#[98]⟩ : ByteArray), (⟨#[]⟩ : ByteArray)⟩ : S31)]
def L4 : List S31 := L2 ++ [(⟨(⟨#[97]⟩ : ByteArray), (⟨#[]⟩ : ByteArray)⟩ : S31), (⟨(⟨#[97]⟩ : ByteArray), (⟨#[]⟩ : ByteArray)⟩ : S31)]
def D2 : List S31 := [(⟨(⟨#[97]⟩ : ByteArray), (⟨#[]⟩ : ByteArray)⟩ : S31), (⟨(⟨#[97]⟩ : ByteArray), (⟨#[]⟩ : ByteArray)⟩ : S31)]
def D1 : List S31 := [(⟨(⟨#[97]⟩ : ByteArray), (⟨#[]⟩ : ByteArray)⟩ : S31)]
theorem meta_L2 (k : Nat) (h : 10 ≤ k) : names_Meta.f k L2 = some 0 := at_rounds (fun k => names_Meta.mono _ k) h (by decide +kernel)
theorem meta_nil (k : Nat) (h : 10 ≤ k) : names_Meta.f k [] = some 0 := at_rounds (fun k => names_Meta.mono _ k) h (by decide +kernel)
theorem meta_L4 (k : Nat) (h : 10 ≤ k) : names_Meta.f k L4 = some 62 := at_rounds (fun k => names_Meta.mono _ k) h (by decide +kernel)
theorem meta_D2 (k : Nat) (h : 10 ≤ k) : names_Meta.f k D2 = some 62 := at_rounds (fun k => names_Meta.mono _ k) h (by decide +kernel)
theorem meta_D1 (k : Nat) (h : 10 ≤ k) : names_Meta.f k D1 = some 0 := at_rounds (fun k => names_Meta.mono _ k) h (by decide +kernel)
theorem nv_key (k : Nat) (a : ByteArray) (q : Int) (m : Bool) (d : ByteArray) (l : List S31) (h : names_Key.f a = some 61) : names_Version.f k a q m d l = some 61 := by
  unfold names_Version.f
  rw [h]
  simp only [Option.bind_some]
  rw [if_neg (by decide)]
theorem nv_data (k : Nat) (a : ByteArray) (q : Int) (m : Bool) (d : ByteArray) (l : List S31) (h : names_Key.f a = some 0) (hd : names_Data.f d = some 63) : names_Version.f (k + 1) a q m d l = some 63 := by
  simp [names_Version.f, names_Version.j0, h, hd]
theorem nv_x (k : Nat) (a : ByteArray) (q : Int) (l : List S31) (h : names_Key.f a = some 0) : names_Version.f (k + 1) a q true (⟨#[120]⟩ : ByteArray) l = some 63 := by
  have h1 := data_ok (⟨#[120]⟩ : ByteArray) (by decide)
  have h2 : ((⟨#[120]⟩ : ByteArray).toList != ([] : List UInt8)) = true := by decide +kernel
  simp only [names_Version.f, h, h1, h2, Option.bind_some, if_true, names_Version.j0]
theorem nv_false (k : Nat) (a : ByteArray) (q : Int) (d : ByteArray) (l : List S31) (t : Int) (h : names_Key.f a = some 0) (hd : names_Data.f d = some 0) (hm : names_Meta.f k l = some t) : names_Version.f (k + 1) a q false d l = some (if t = 0 then 0 else 62) := by
  simp only [names_Version.f, h, hd, hm, Option.bind_some, if_true, names_Version.j0, Bool.false_eq_true, if_false]
  split <;> rfl
theorem nv_true (k : Nat) (a : ByteArray) (q : Int) (l : List S31) (t : Int) (h : names_Key.f a = some 0) (hm : names_Meta.f k l = some t) : names_Version.f (k + 1) a q true (⟨#[]⟩ : ByteArray) l = some (if t = 0 then (if (l.length : Int) > 0 then 62 else 0) else 62) := by
  have h1 := data_ok (⟨#[]⟩ : ByteArray) (by decide)
  have h2 : ((⟨#[]⟩ : ByteArray).toList != ([] : List UInt8)) = false := by decide +kernel
  simp only [names_Version.f, h, h1, h2, hm, Option.bind_some, if_true, names_Version.j0, Bool.false_eq_true, if_false]
  split
  · split <;> rfl
  · rfl
theorem l0_ok (k : Nat) (xs : List Int) (h : xs.length ≤ 1000000) : ∃ b, version_Write.l0 (k + 3) xs L2 2 0 = some (b, 0) := by
  simp only [version_Write.l0, L2]
  simp [wrap64, rd_T31, bytesOf_length]
  have e1 : (⟨#[97]⟩ : ByteArray).size = 1 := rfl
  have e2 : (⟨#[49]⟩ : ByteArray).size = 1 := rfl
  have e3 : (⟨#[98]⟩ : ByteArray).size = 1 := rfl
  have e4 : (⟨#[]⟩ : ByteArray).size = 0 := rfl
  rw [e1, e2, e3, e4]
  omega
theorem j1_ok (k : Nat) (a : ByteArray) (q : Int) (m : Bool) (d : ByteArray) (l : List S31) (x : Int) (ha : a.size ≤ 32) (hd : d.size ≤ 1024) (hl : m = true ∨ l = L2) : ∃ b, version_Write.j1 (k + 10) x a q m d l = some (b, 0) := by
  obtain ⟨t, ht, hlen⟩ := put_8 k x q
  simp only [version_Write.j1]
  rw [ht]
  simp only [Option.bind_some, List.length_append, List.length_cons, List.length_nil]
  rw [if_pos (by omega), if_pos (by omega)]
  rcases hl with rfl | rfl
  · exact ⟨_, rfl⟩
  · cases m
    · rw [if_neg (by decide)]
      obtain ⟨t2, ht2, hlen2⟩ := put_2 (k + 6) ((t ++ [((a.size : Int)) % 256]) ++ bytesOf a) (d.size : Int) (by simp [bytesOf_length]; omega)
      simp only [List.length_append, List.length_cons, List.length_nil, bytesOf_length] at hlen2
      rw [ht2]
      simp only [Option.bind_some, List.length_append, List.length_cons, List.length_nil, bytesOf_length]
      rw [if_pos (by omega), if_pos (by omega)]
      exact l0_ok (k + 6) _ (by simp [bytesOf_length]; omega)
    · exact ⟨_, rfl⟩
theorem write_ok (k : Nat) (a : ByteArray) (q : Int) (m : Bool) (d : ByteArray) (l : List S31) (h1 : 1 ≤ q) (h2 : q ≤ 1099511627776) (ha : a.size ≤ 32) (hd : d.size ≤ 1024) (hl : m = true ∨ l = L2) (hv : names_Version.f (k + 10) a q m d l = some 0) : ∃ b, version_Write.f (k + 11) a q m d l = some (b, 0) := by
  unfold version_Write.f
  rw [if_neg (by omega), show decide (q > 1099511627776) = false by simp; omega]
  simp only [version_Write.j0]
  rw [if_neg (by decide), hv]
  simp only [Option.bind_some, if_true]
  cases m
  · simp only [Bool.false_eq_true, if_false]; exact j1_ok k a q _ d l _ ha hd hl
  · simp only [if_true]; exact j1_ok k a q _ d l _ ha hd hl
theorem zeros_size (n : Nat) : (strOfNums (List.replicate n (0 : Int))).size = n := by
  simp [strOfNums]
  show (Array.replicate n (0 : UInt8)).size = n
  simp
theorem j2_true (k : Nat) (x : Int) (a : ByteArray) (q : Int) (m : Bool) (d : ByteArray) (l : List S31) (ha0 : a.size ≠ 0) (ha : a.size ≤ 32) (h1 : 1 ≤ q) (h2 : q ≤ 1099511627776) (hc : (m = true ∧ d = (⟨#[]⟩ : ByteArray) ∧ l = []) ∨ (m = false ∧ d.size ≤ 1024 ∧ l = L2)) : cofferlaw13_VersionRight.j2 (k + 30) x a q m d l = some true := by
  have hk := key_ok a ha0 ha
  have hd : d.size ≤ 1024 := by
    rcases hc with ⟨_, rfl, _⟩ | ⟨_, h, _⟩
    · decide
    · exact h
  have hdo := data_ok d hd
  have hv : names_Version.f (k + 18 + 10) a q m d l = some 0 := by
    rcases hc with ⟨rfl, rfl, rfl⟩ | ⟨rfl, _, rfl⟩
    · exact (nv_true (k + 27) a q [] 0 hk (meta_nil _ (by omega))).trans rfl
    · exact (nv_false (k + 27) a q d L2 0 hk hdo (meta_L2 _ (by omega))).trans rfl
  obtain ⟨b, hb⟩ := write_ok (k + 18) a q m d l h1 h2 ha hd (by rcases hc with ⟨h, _⟩ | ⟨_, _, h⟩ <;> simp [h]) hv
  have hb' : version_Write.f (k + 29) a q m d l = some (b, 0) := hb
  have e0 : (⟨#[]⟩ : ByteArray).toList = ([] : List UInt8) := by decide +kernel
  have hx := and_range x 7 (by decide)
  have hx1 : 0 ≤ Go.bits .and .i64 x 7 ∧ Go.bits .and .i64 x 7 ≤ 7 := hx
  have hZ := data_long (strOfNums (List.replicate 1025 (0 : Int))) (by rw [zeros_size]; decide)
  have hK := key_long (strOfNums (List.replicate 65 (0 : Int))) (by rw [zeros_size]; decide)
  show cofferlaw13_VersionRight.j2 (k + 29 + 1) x a q m d l = _
  simp only [cofferlaw13_VersionRight.j2]
  rw [hb']
  simp only [Option.bind_some, if_true]
  generalize Go.bits .and .i64 x 7 = y at *
  by_cases y0 : y = 0
  · rw [if_pos y0, write_arg (k + 28) _ 0 m d l (by omega)]
    simp only [Option.bind_some, e0, if_true]; rfl
  rw [if_neg y0]
  by_cases y1 : y = 1
  · rw [if_pos y1, if_pos (by decide), write_arg (k + 28) a 1099511627777 m _ l (by omega)]
    simp only [Option.bind_some, e0, if_true]; rfl
  rw [if_neg y1]
  by_cases y2 : y = 2
  · rw [if_pos y2, if_pos (by decide), write_wrong (k + 28) _ q m _ l 61 h1 h2 (nv_key _ _ _ _ _ _ key_none) (by decide)]
    simp only [Option.bind_some, e0, if_true]; rfl
  rw [if_neg y2]
  by_cases y3 : y = 3
  · rw [if_pos y3, if_pos (by decide), write_wrong (k + 28) _ q m _ l 61 h1 h2 (nv_key _ _ _ _ _ _ hK) (by decide)]
    simp only [Option.bind_some, e0, if_true]; rfl
  rw [if_neg y3]
  by_cases y4 : y = 4
  · rw [if_pos y4, if_pos (by decide)]
    try simp only [Option.bind_some]
    rw [if_pos (by rcases hc with ⟨_, _, rfl⟩ | ⟨_, _, rfl⟩ <;> decide), write_wrong (k + 28) a q m _ _ 63 h1 h2 (nv_data (k + 27) _ _ _ _ _ hk hZ) (by decide)]
    simp only [Option.bind_some, e0, if_true]; rfl
  rw [if_neg y4]
  by_cases y5 : y = 5
  · rw [if_pos y5]
    try simp only [Option.bind_some]
    have hw : names_Version.f (k + 28) a q m d (l ++ [(⟨(⟨#[97]⟩ : ByteArray), (⟨#[]⟩ : ByteArray)⟩ : S31), (⟨(⟨#[97]⟩ : ByteArray), (⟨#[]⟩ : ByteArray)⟩ : S31)]) = some 62 := by
      rcases hc with ⟨rfl, rfl, rfl⟩ | ⟨rfl, _, rfl⟩
      · exact (nv_true (k + 27) a q D2 62 hk (meta_D2 _ (by omega))).trans rfl
      · exact (nv_false (k + 27) a q d L4 62 hk hdo (meta_L4 _ (by omega))).trans rfl
    rw [if_pos (by rcases hc with ⟨_, _, rfl⟩ | ⟨_, _, rfl⟩ <;> decide), write_wrong (k + 28) a q m d _ 62 h1 h2 hw (by decide)]
    simp only [Option.bind_some, e0, if_true]; rfl
  rw [if_neg y5]
  by_cases y6 : y = 6
  · rw [if_pos y6, write_wrong (k + 28) a q true _ _ 63 h1 h2 (nv_x (k + 27) a q _ hk) (by decide)]
    simp only [Option.bind_some, e0, if_true]; rfl
  rw [if_neg y6, write_wrong (k + 28) a q true (⟨#[]⟩ : ByteArray) [(⟨(⟨#[97]⟩ : ByteArray), (⟨#[]⟩ : ByteArray)⟩ : S31)] 62 h1 h2 ((nv_true (k + 27) a q D1 0 hk (meta_D1 _ (by omega))).trans rfl) (by decide)]
  simp only [Option.bind_some, e0, if_true]; rfl
theorem VersionRight : cofferlaw13_VersionRight.Pure := by
  intro a0 a1 x2 m x4 g0 g1 g2 g4
  refine ⟨32 + 8, ?_⟩
  have hq := and_range x2 1099511627775 (by decide)
  have hq1 : 0 ≤ Go.bits .and .i64 x2 1099511627775 ∧ Go.bits .and .i64 x2 1099511627775 ≤ 1099511627775 := hq
  have hj1 (a d : ByteArray) (ha : a.size ≤ 31) (hd : d.size ≤ 1024) : cofferlaw13_VersionRight.j1 (8 + 30 + 1) a d x2 m x4 = some true := by
    have hs : (a ++ (⟨#[107]⟩ : ByteArray)).size = a.size + 1 := by simp only [ByteArray.size_append]; rfl
    have hw : 1 ≤ wrap64 (1 + Go.bits .and .i64 x2 1099511627775) ∧ wrap64 (1 + Go.bits .and .i64 x2 1099511627775) ≤ 1099511627776 := by
      generalize Go.bits .and .i64 x2 1099511627775 = z at *
      unfold wrap64; omega
    simp only [cofferlaw13_VersionRight.j1]
    rw [if_pos (by omega)]
    cases m
    · simp only [Bool.false_eq_true, if_false]
      exact j2_true 8 x4 _ _ false d L2 (by omega) (by omega) hw.1 hw.2 (.inr ⟨rfl, hd, rfl⟩)
    · simp only [if_true]
      exact j2_true 8 x4 _ _ true _ _ (by omega) (by omega) hw.1 hw.2 (.inl ⟨rfl, rfl, rfl⟩)
  have hj0 (a : ByteArray) (ha : a.size ≤ 31) : cofferlaw13_VersionRight.j0 (8 + 30 + 1 + 1) a a1 x2 m x4 = some true := by
    simp only [cofferlaw13_VersionRight.j0]
    by_cases h : (a1.size : Int) > 1024
    · rw [if_pos h, if_pos (by decide), if_pos (by omega)]
      exact hj1 a _ ha (by simp [ByteArray.size_extract]; omega)
    · rw [if_neg h]
      exact hj1 a _ ha (by omega)
  unfold cofferlaw13_VersionRight.f
  rw [show (32 + 8 : Nat) = 40 from rfl, first_true]
  simp only [Option.bind_some, if_true]
  by_cases h : (a0.size : Int) > 31
  · rw [if_pos h, if_pos (by decide), if_pos (by omega)]
    exact hj0 _ (by simp [ByteArray.size_extract]; omega)
  · rw [if_neg h]
    exact hj0 _ (by omega)
end Go.Proofs.Ytdhkcklgnnilfaa.Pure
