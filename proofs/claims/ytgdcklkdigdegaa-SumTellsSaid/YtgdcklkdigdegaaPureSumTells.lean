/- SumTells: at most eight bytes in a row changed, and the sum is another one. No condition beside the row's own. -/
import Derived.Test.YtgdcklkdigdegaaStSumTells
import Derived.Test.YtgdcklkdigdegaaX3
import Derived.Test.YtgdcklkdigdegaaX4
import Derived.Test.YtgdcklkdigdegaaX9
import Derived.Test.YtgdcklkdigdegaaCrcLink
namespace Go.Proofs.Ytgdcklkdigdegaa.Pure
set_option linter.unusedVariables false
set_option linter.unusedSimpArgs false
open Go.RowKit Go.Proofs.Ytgdcklkdigdegaa.X Go.Proofs.YtgdcklkdigdegaaW.PrintWords Go.Proofs.YtgdcklkdigdegaaW.PrintLast
open Go.Proofs.Ytgdcklkdigdegaa Go.Proofs.Ytgdcklkdigdegaa.Link

theorem xor_u8 (a b : UInt8) : Go.bits .xor .u8 (a.toNat : Int) (b.toNat : Int) = ((a ^^^ b).toNat : Int) := by
  show IntKind.u8.wrap (((BitVec.ofInt 8 (a.toNat : Int)) ^^^ (BitVec.ofInt 8 (b.toNat : Int))).toNat : Int) = _
  have ha := a.toNat_lt
  have hb := b.toNat_lt
  have hx := (a ^^^ b).toNat_lt
  rw [BitVec.ofInt_natCast, BitVec.ofInt_natCast, BitVec.toNat_xor, BitVec.toNat_ofNat, BitVec.toNat_ofNat, Nat.mod_eq_of_lt ha, Nat.mod_eq_of_lt hb, UInt8.toNat_xor] at *
  show (((a.toNat ^^^ b.toNat : Nat) : Int) % 2 ^ 8) = _
  omega
/-- The byte that is laid lay. -/
def xb (b : Int) (k : Nat) : UInt8 := UInt8.ofNat (xk b k).toNat
theorem xk_range (b : Int) (k : Nat) : 0 ≤ xk b k ∧ xk b k < 256 := by
  unfold xk
  exact ⟨Int.emod_nonneg _ (by decide), Int.emod_lt_of_pos _ (by decide)⟩
theorem xb_xk (b : Int) (k : Nat) : ((xb b k).toNat : Int) = xk b k := by
  have := xk_range b k
  unfold xb
  rw [UInt8.toNat_ofNat']
  omega
theorem xb_zero (b : Int) (k : Nat) : xb b k = 0 ↔ xk b k = 0 := by
  have := xb_xk b k
  constructor
  · intro h; rw [h] at this; rw [← this]; rfl
  · intro h; rw [h] at this
    have h2 : (xb b k).toNat = 0 := by omega
    exact UInt8.toNat_inj.1 h2
/-- What is laid over the text. -/
def lay (n T K : Nat) (b : Int) : List UInt8 := List.replicate T 0 ++ (List.range K).map (xb b) ++ List.replicate (n - T - K) 0
theorem xs_len (s : ByteArray) (T : Nat) (b : Int) (k : Nat) : (xsT s T b k).length = s.size := by
  induction k with
  | zero => exact bytesOf_length s
  | succ k ih => simp [xsT, ih]
/-- The bytes behind k rounds, one by one. -/
theorem xs_at (s : ByteArray) (T : Nat) (b : Int) (k : Nat) (hk : T + k ≤ s.size) : ∀ i, (h : i < s.data.toList.length) → (xsT s T b k)[i]? = some (((s.data.toList[i] ^^^ (if T ≤ i ∧ i < T + k then xb b (i - T) else 0) : UInt8).toNat : Int)) := by
  have hd : s.data.toList.length = s.size := data_length s
  induction k with
  | zero =>
    intro i h
    rw [if_neg (by omega)]
    rw [show xsT s T b 0 = bytesOf s from rfl]
    unfold bytesOf
    rw [List.getElem?_map, List.getElem?_eq_getElem h]
    simp
  | succ k ih =>
    intro i h
    have ih := ih (by omega)
    have hl := xs_len s T b k
    simp only [xsT]
    by_cases e : T + k = i
    · subst e
      rw [List.getElem?_set_self (by omega), if_pos (by omega)]
      have h1 := ih (T + k) h
      rw [if_neg (by omega)] at h1
      have h2 : (xsT s T b k).getD (T + k) 0 = ((s.data.toList[T + k]).toNat : Int) := by
        rw [List.getD_eq_getElem?_getD, h1]; simp
      rw [h2, ← xb_xk, xor_u8]
      simp
    · rw [List.getElem?_set_ne e, ih i h]
      by_cases h3 : T ≤ i ∧ i < T + k
      · rw [if_pos h3, if_pos (by omega)]
      · rw [if_neg h3, if_neg (by omega)]
theorem over_len (n T K : Nat) (b : Int) (h : T + K ≤ n) : (lay n T K b).length = n := by
  simp [lay]; omega
theorem over_at (n T K : Nat) (b : Int) (h : T + K ≤ n) (i : Nat) (hi : i < n) : (lay n T K b)[i]? = some (if T ≤ i ∧ i < T + K then xb b (i - T) else 0) := by
  unfold lay
  by_cases h1 : i < T
  · rw [List.append_assoc, List.getElem?_append_left (by simpa using h1), if_neg (by omega)]
    simp [List.getElem?_replicate, h1]
  · by_cases h2 : i < T + K
    · rw [List.append_assoc, List.getElem?_append_right (by simp; omega), List.getElem?_append_left (by simp; omega), if_pos (by omega), List.length_replicate, List.getElem?_map, List.getElem?_range (by omega)]
      rfl
    · rw [List.getElem?_append_right (by simp; omega), if_neg (by omega)]
      simp [List.getElem?_replicate]; omega
theorem text_over (s : ByteArray) (T K : Nat) (b : Int) (h : T + K ≤ s.size) : (strOfNums (xsT s T b K)).data.toList = List.zipWith (· ^^^ ·) s.data.toList (lay s.size T K b) := by
  have hd : s.data.toList.length = s.size := data_length s
  apply List.ext_getElem?
  intro i
  by_cases hi : i < s.size
  · have h1 := xs_at s T b K h i (by omega)
    have h2 := over_at s.size T K b h i hi
    rw [List.getElem?_zipWith, h2, List.getElem?_eq_getElem (show i < s.data.toList.length by omega)]
    show (strOfNums (xsT s T b K)).data.toList[i]? = _
    rw [strOfNums_data, List.getElem?_map, h1]
    simp
  · rw [List.getElem?_eq_none (by rw [strOfNums_data]; simp [xs_len]; omega), List.getElem?_eq_none (by simp [over_len s.size T K b h]; omega)]
theorem chg_iff (b : Int) (K : Nat) : chg b K = false ↔ ∀ c ∈ (List.range K).map (xb b), c = 0 := by
  induction K with
  | zero => simp [chg]
  | succ K ih =>
    rw [chg, Bool.or_eq_false_iff, ih, List.range_succ]
    have e : (xk b K != 0) = false ↔ xb b K = 0 := by rw [xb_zero]; simp
    rw [e]
    simp only [List.map_append, List.map_cons, List.map_nil, List.mem_append, List.mem_singleton]
    constructor
    · rintro ⟨h1, h2⟩ c (hc | rfl)
      · exact h1 c hc
      · exact h2
    · intro h
      exact ⟨fun c hc => h c (.inl hc), h _ (.inr rfl)⟩
theorem SumTells : cofferlaw01_SumTells.Pure := by
  intro s a1 a2 hs _ _
  unfold cofferlaw01_SumTells.f
  rw [first_true]
  simp only [Option.bind_some, if_true]
  by_cases hz : s.size = 0
  · rw [if_pos hz]
  rw [if_neg hz, if_pos (by omega)]
  obtain ⟨_, hT⟩ := tel_lt s a1 hz (by omega)
  have hK : tel s a1 + rnd s a1 ≤ s.size := by unfold rnd; omega
  have hK8 : rnd s a1 ≤ 8 := by unfold rnd; omega
  generalize rnd s a1 = K at *
  generalize tel s a1 = T at *
  have hl : (strOfNums (xsT s T a2 K)).size = s.size := by rw [← data_length, strOfNums_data, List.length_map, xs_len]
  rw [of_enc' _ (by omega), of_enc' _ (by omega)]
  simp only [Option.bind_some]
  congr 1
  have ht := text_over s T K a2 hK
  have hx := Crc.fold_xor s.data.toList (lay s.size T K a2) (~~~ 0#64) 0#64 (by rw [over_len _ _ _ _ hK, data_length])
  rw [← ht] at hx
  have hx' : Crc.fold (~~~ 0#64) (strOfNums (xsT s T a2 K)).data.toList = Crc.fold (~~~ 0#64) s.data.toList ^^^ Crc.fold 0#64 (lay s.size T K a2) := by
    rw [← hx]; congr 1
  have hb := Crc.burst T (s.size - T - K) ((List.range K).map (xb a2)) (by simpa using hK8)
  have key : Crc.on 0#64 (strOfNums (xsT s T a2 K)).data.toList = Crc.on 0#64 s.data.toList ↔ chg a2 K = false := by
    rw [chg_iff, ← hb]
    show ~~~ (Crc.fold (~~~ 0#64) _) = ~~~ (Crc.fold (~~~ 0#64) _) ↔ Crc.fold 0#64 (lay s.size T K a2) = 0#64
    rw [hx']
    generalize Crc.fold 0#64 (lay s.size T K a2) = z
    generalize Crc.fold (~~~ 0#64) s.data.toList = y
    constructor
    · intro h
      have h1 : y ^^^ z = y := by
        have := congrArg (~~~ ·) h
        simpa using this
      have h2 : y ^^^ (y ^^^ z) = y ^^^ y := by rw [h1]
      rw [← BitVec.xor_assoc, BitVec.xor_self, BitVec.zero_xor] at h2
      exact h2
    · rintro rfl; simp
  cases hc : chg a2 K
  · have := key.2 hc
    rw [this]; simp
  · have : ¬ Crc.on 0#64 (strOfNums (xsT s T a2 K)).data.toList = Crc.on 0#64 s.data.toList := fun e => by have := key.1 e; rw [hc] at this; cases this
    have h2 : ¬ enc (Crc.on 0#64 (strOfNums (xsT s T a2 K)).data.toList) = enc (Crc.on 0#64 s.data.toList) := fun e => this (enc_inj.1 e)
    simp [h2]
end Go.Proofs.Ytgdcklkdigdegaa.Pure
