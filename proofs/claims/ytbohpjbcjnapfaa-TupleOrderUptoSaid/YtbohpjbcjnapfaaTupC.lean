/- Chapter 5: the program's Compare, in plain words. -/
import Derived.Test.YtbohpjbcjnapfaaTupH
namespace Go.Proofs.Ytbohpjbcjnapfaa.TupM
open Go.RowKit Go.Proofs.Ytbohpjbcjnapfaa.X Go.Proofs.YtbohpjbcjnapfaaW.PrintWords Go.Proofs.YtbohpjbcjnapfaaW.PrintLast
set_option linter.unusedVariables false
set_option linter.unusedSimpArgs false

def sgn (a b : Int) : Int := if a < b then -1 else if b < a then 1 else 0
theorem sgn_neg (a b : Int) : sgn b a = -sgn a b := by unfold sgn; split <;> (try split) <;> omega
theorem sgn_zero {a b : Int} (h : sgn a b = 0) : a = b := by unfold sgn at h; split at h <;> (try split at h) <;> omega
theorem sgn_self (a : Int) : sgn a a = 0 := by unfold sgn; rw [if_neg (by omega), if_neg (by omega)]
theorem sgn_three (a b : Int) : sgn a b = -1 ∨ sgn a b = 0 ∨ sgn a b = 1 := by unfold sgn; split <;> (try split) <;> simp
theorem cB_neg : ∀ a b : List UInt8, Lib.compareBytes b a = -Lib.compareBytes a b
  | [], [] => rfl
  | [], _ :: _ => rfl
  | _ :: _, [] => rfl
  | c :: a, d :: b => by
    have ih := cB_neg a b
    simp only [Lib.compareBytes]
    by_cases h : c < d
    · rw [if_pos h, if_neg (fun h2 => absurd (UInt8.lt_trans h h2) (UInt8.lt_irrefl c)), if_pos h]; rfl
    · by_cases h2 : d < c
      · rw [if_pos h2, if_neg h, if_pos h2]
      · rw [if_neg h, if_neg h2, if_neg h2, if_neg h, ih]
theorem cB_zero : ∀ {a b : List UInt8}, Lib.compareBytes a b = 0 → a = b
  | [], [], _ => rfl
  | [], _ :: _, h => by simp [Lib.compareBytes] at h
  | _ :: _, [], h => by simp [Lib.compareBytes] at h
  | c :: a, d :: b, h => by
    simp only [Lib.compareBytes] at h
    by_cases h1 : c < d
    · rw [if_pos h1] at h; simp at h
    · by_cases h2 : d < c
      · rw [if_neg h1, if_pos h2] at h; simp at h
      · rw [if_neg h1, if_neg h2] at h
        rw [cB_zero h, UInt8.le_antisymm (UInt8.not_lt.1 h2) (UInt8.not_lt.1 h1)]
theorem cB_self : ∀ a : List UInt8, Lib.compareBytes a a = 0
  | [] => rfl
  | c :: a => by simp only [Lib.compareBytes]; rw [if_neg (UInt8.lt_irrefl c), if_neg (UInt8.lt_irrefl c), cB_self a]
theorem cB_three : ∀ a b : List UInt8, Lib.compareBytes a b = -1 ∨ Lib.compareBytes a b = 0 ∨ Lib.compareBytes a b = 1
  | [], [] => by simp [Lib.compareBytes]
  | [], _ :: _ => by simp [Lib.compareBytes]
  | _ :: _, [] => by simp [Lib.compareBytes]
  | c :: a, d :: b => by
    have := cB_three a b
    simp only [Lib.compareBytes]
    split
    · simp
    · split
      · simp
      · exact this
/-- The order of two parts. -/
def cmpP (p q : S52) : Int :=
  if p.f0 = q.f0 then (if Lib.compareBytes p.f1.data.toList q.f1.data.toList = 0 then (if p.f0 = 3 then sgn q.f2 p.f2 else sgn p.f2 q.f2) else Lib.compareBytes p.f1.data.toList q.f1.data.toList) else sgn p.f0 q.f0
theorem cmpP_neg (p q : S52) : cmpP q p = -cmpP p q := by
  unfold cmpP
  by_cases h : p.f0 = q.f0
  · rw [if_pos h.symm, if_pos h, cB_neg p.f1.data.toList q.f1.data.toList, ← h]
    by_cases h2 : Lib.compareBytes p.f1.data.toList q.f1.data.toList = 0
    · rw [if_pos (by omega), if_pos h2]
      by_cases h3 : p.f0 = 3
      · rw [if_pos h3, if_pos h3, sgn_neg]
      · rw [if_neg h3, if_neg h3, sgn_neg]
    · rw [if_neg (by omega), if_neg h2]
  · rw [if_neg (fun e => h e.symm), if_neg h, sgn_neg]
theorem cmpP_three (p q : S52) : cmpP p q = -1 ∨ cmpP p q = 0 ∨ cmpP p q = 1 := by
  unfold cmpP
  split
  · split
    · split <;> exact sgn_three _ _
    · exact cB_three _ _
  · exact sgn_three _ _
/-- The order of two lists. -/
def cmpL : List S52 → List S52 → Int
  | [], [] => 0
  | [], _ :: _ => -1
  | _ :: _, [] => 1
  | p :: a, q :: b => if cmpP p q = 0 then cmpL a b else cmpP p q
theorem cmpL_neg : ∀ a b : List S52, cmpL b a = -cmpL a b
  | [], [] => rfl
  | [], _ :: _ => rfl
  | _ :: _, [] => rfl
  | p :: a, q :: b => by
    simp only [cmpL]
    rw [cmpP_neg p q, cmpL_neg a b]
    by_cases h : cmpP p q = 0
    · rw [if_pos (by omega), if_pos h]
    · rw [if_neg (by omega), if_neg h]
theorem cmpL_three : ∀ a b : List S52, cmpL a b = -1 ∨ cmpL a b = 0 ∨ cmpL a b = 1
  | [], [] => by simp [cmpL]
  | [], _ :: _ => by simp [cmpL]
  | _ :: _, [] => by simp [cmpL]
  | p :: a, q :: b => by
    simp only [cmpL]
    split
    · exact cmpL_three a b
    · exact cmpP_three p q

theorem cmp_i (a b : Int) : cmp_Compare_int.f a b = some (sgn a b) := by
  simp [cmp_Compare_int.f, cmp_isNaN_int.f, sgn]
  split
  · rfl
  · split <;> rfl
theorem cmp_n (a b : Int) : cmp_Compare_int64.f a b = some (sgn a b) := by
  simp [cmp_Compare_int64.f, cmp_isNaN_int64.f, sgn]
  split
  · rfl
  · split <;> rfl
theorem or3 (a b c : Int) (k : Nat) (hk : 4 ≤ k) : cmp_Or_int.f k [a, b, c] = some (if a = 0 then (if b = 0 then c else b) else a) := by
  obtain ⟨k, rfl⟩ : ∃ q, k = q + 1 + 1 + 1 + 1 := ⟨k - 4, by omega⟩
  have w1 : wrap64 ((0 : Int) + 1) = 1 := by unfold wrap64; omega
  have w2 : wrap64 ((1 : Int) + 1) = 2 := by unfold wrap64; omega
  have w3 : wrap64 ((2 : Int) + 1) = 3 := by unfold wrap64; omega
  unfold cmp_Or_int.f
  simp only [cmp_Or_int.l0, w1, w2, w3]
  by_cases ha : a = 0
  · by_cases hb : b = 0
    · by_cases hc : c = 0 <;> simp [rd, ha, hb, hc]
    · simp [rd, ha, hb]
  · simp [rd, ha]
theorem neg_sgn (a b : Int) : wrap64 (-sgn a b) = sgn b a := by
  rw [sgn_neg a b]
  rcases sgn_three a b with h | h | h <;> rw [h] <;> unfold wrap64 <;> omega
theorem pcompare_f (p q : S52) (k : Nat) (hk : 4 ≤ k) : tuple_compare.f k p.f0 p.f1 p.f2 q.f0 q.f1 q.f2 = some (cmpP p q) := by
  unfold tuple_compare.f
  rw [cmp_n, cmp_i]
  simp only [Option.bind_some]
  have hs : strings_Compare.f p.f1 q.f1 = some (Lib.compareBytes p.f1.data.toList q.f1.data.toList) := rfl
  rw [hs]
  simp only [Option.bind_some]
  rw [neg_sgn, or3 _ _ _ k hk, or3 _ _ _ k hk]
  simp only [Option.bind_some]
  have core : ∀ n, (if sgn p.f0 q.f0 = 0 then (if Lib.compareBytes p.f1.data.toList q.f1.data.toList = 0 then n else Lib.compareBytes p.f1.data.toList q.f1.data.toList) else sgn p.f0 q.f0) = (if p.f0 = q.f0 then (if Lib.compareBytes p.f1.data.toList q.f1.data.toList = 0 then n else Lib.compareBytes p.f1.data.toList q.f1.data.toList) else sgn p.f0 q.f0) := by
    intro n
    by_cases h : p.f0 = q.f0
    · rw [if_pos h, h, sgn_self, if_pos rfl]
    · rw [if_neg h, if_neg (fun e => h (sgn_zero e))]
  unfold cmpP
  by_cases h3 : p.f0 = 3
  · rw [if_pos h3, core, if_pos h3]
  · rw [if_neg h3, core, if_neg h3]
theorem mn_nat (a b : Nat) : mn (a : Int) (b : Int) = ((min a b : Nat) : Int) := by unfold mn; split <;> omega
theorem cmpL_end (a b : List S52) (i : Nat) (h : i = min a.length b.length) : cmpL (a.drop i) (b.drop i) = sgn (a.length : Int) (b.length : Int) := by
  rcases Nat.lt_trichotomy a.length b.length with hl | hl | hl
  · obtain rfl : i = a.length := by omega
    rw [List.drop_length, List.drop_eq_getElem_cons hl]
    simp only [cmpL, sgn]; rw [if_pos (by omega)]
  · obtain rfl : i = a.length := by omega
    rw [List.drop_length, hl, List.drop_length, sgn_self]; rfl
  · obtain rfl : i = b.length := by omega
    rw [List.drop_length, List.drop_eq_getElem_cons hl]
    simp only [cmpL, sgn]; rw [if_neg (by omega), if_pos (by omega)]
theorem compare_l0 (a b : List S52) (ha : a.length ≤ 2097152) : ∀ (d i k : Nat), i + d = min a.length b.length → d + 5 < k → tuple_Compare.l0 k a b ((min a.length b.length : Nat) : Int) (i : Int) = some (cmpL (a.drop i) (b.drop i))
  | 0, i, k, e, hk => by
    obtain ⟨k, rfl⟩ : ∃ q, k = q + 1 := ⟨k - 1, by omega⟩
    simp only [tuple_Compare.l0]
    rw [if_neg (by omega), cmp_i, cmpL_end a b i (by omega)]; rfl
  | d + 1, i, k, e, hk => by
    obtain ⟨k, rfl⟩ : ∃ q, k = q + 1 := ⟨k - 1, by omega⟩
    have ia : i < a.length := by omega
    have ib : i < b.length := by omega
    have rest := compare_l0 a b ha d (i + 1) k (by omega) (by omega)
    simp only [tuple_Compare.l0]
    rw [if_pos (by omega), if_pos (by omega), if_pos (by omega), if_pos (by omega), rd52 a i ia, rd52 b i ib, pcompare_f _ _ k (by omega), w64_succ i (by omega), rest]
    simp only [Option.bind_some]
    rw [List.drop_eq_getElem_cons ia, List.drop_eq_getElem_cons ib]
    simp only [cmpL]
    by_cases h : cmpP a[i] b[i] = 0
    · rw [if_pos h, if_pos h]
    · rw [if_neg h, if_neg h]
theorem compare_f (a b : List S52) (ha : a.length ≤ 2097152) (k : Nat) (hk : a.length + 5 < k) : tuple_Compare.f k a b = some (cmpL a b) := by
  unfold tuple_Compare.f
  rw [mn_nat]
  exact compare_l0 a b ha (min a.length b.length) 0 k (by omega) (by omega)

end Go.Proofs.Ytbohpjbcjnapfaa.TupM
