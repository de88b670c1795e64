/- Chapter 2: plain laws of digits: there and back. -/
import Derived.Test.YtcmjpdfkacmogaaShaU
namespace Go.Proofs.Ytcmjpdfkacmogaa.Sha
open Go Go.RowKit
set_option linter.unusedVariables false
set_option linter.unusedSimpArgs false

theorem hexd_all : (List.range 16).all (fun k => dv (hexd k) == (k : Int)) = true := by kernel_rfl
theorem dv_hexd (k : Nat) (hk : k < 16) : dv (hexd k) = (k : Int) := eq_of_beq (List.all_eq_true.1 hexd_all k (List.mem_range.2 hk))
theorem ok_hexd (k : Nat) (hk : k < 16) : okd (hexd k) = true := by
  unfold okd; rw [dv_hexd k hk]; exact decide_eq_true (by omega)
theorem okd_all : (List.range 256).all (fun n => !okd (UInt8.ofNat n) || (hexd (dv (UInt8.ofNat n)).toNat == UInt8.ofNat n)) = true := by kernel_rfl
theorem hexd_dv (c : UInt8) (h : okd c = true) : hexd (dv c).toNat = c := by
  have h1 := List.all_eq_true.1 okd_all c.toNat (List.mem_range.2 c.toNat_lt)
  rw [UInt8.ofNat_toNat, h] at h1
  simpa using h1
theorem digit_all : (List.range 256).all (fun n => okd (UInt8.ofNat n) == (decide (48 ≤ n ∧ n ≤ 57) || decide (97 ≤ n ∧ n ≤ 102))) = true := by kernel_rfl
theorem okd_digit (c : UInt8) : okd c = (decide (48 ≤ c.toNat ∧ c.toNat ≤ 57) || decide (97 ≤ c.toNat ∧ c.toNat ≤ 102)) := by
  have h1 := List.all_eq_true.1 digit_all c.toNat (List.mem_range.2 c.toNat_lt)
  rw [UInt8.ofNat_toNat] at h1
  exact eq_of_beq h1
theorem hexF_ok : ∀ l : List UInt8, (hexF l).all okd = true
  | [] => rfl
  | c :: l => by
    have h : hexF (c :: l) = hex1 c ++ hexF l := rfl
    have hc := c.toNat_lt
    rw [h, List.all_append, hexF_ok l]
    show ((okd (hexd (c.toNat / 16)) && (okd (hexd (c.toNat % 16)) && true)) && true) = true
    rw [ok_hexd _ (by omega), ok_hexd _ (by omega)]; rfl
theorem hexF_inj : ∀ (x y : List UInt8), hexF x = hexF y → x = y
  | [], [], _ => rfl
  | [], b :: y, h => by
    have := congrArg List.length h
    rw [hexF_len, hexF_len] at this
    simp at this
  | a :: x, [], h => by
    have := congrArg List.length h
    rw [hexF_len, hexF_len] at this
    simp at this
  | a :: x, b :: y, h => by
    have ha := a.toNat_lt
    have hb := b.toNat_lt
    have h' : hexd (a.toNat / 16) :: hexd (a.toNat % 16) :: hexF x = hexd (b.toNat / 16) :: hexd (b.toNat % 16) :: hexF y := h
    injection h' with h1 h2
    injection h2 with h2 h3
    have e1 := congrArg dv h1
    have e2 := congrArg dv h2
    rw [dv_hexd _ (by omega), dv_hexd _ (by omega)] at e1 e2
    have e : a = b := UInt8.toNat_inj.1 (by omega)
    rw [e, hexF_inj x y h3]
theorem all_getD (s : List UInt8) (h : s.all okd = true) (i : Nat) (hi : i < s.length) : okd (s.getD i 0) = true := by
  rw [List.getD_eq_getElem?_getD, List.getElem?_eq_getElem hi]
  exact List.all_eq_true.1 h _ (List.getElem_mem hi)
theorem acc_succ (s : List UInt8) (i : Nat) : acc s (i + 1) = (acc s i).set (i / 2) (UInt8.ofNat (((acc s i).getD (i / 2) 0).toNat * 16 % 256 + (dv (s.getD i 0)).toNat)) := rfl
/-- What has been read of digits: the digits tell it again. -/
theorem acc_hex (s : List UInt8) (h64 : s.length = 64) (hall : s.all okd = true) : ∀ i, i ≤ 32 → ∃ A : List UInt8, A.length = i ∧ acc s (2 * i) = A ++ List.replicate (32 - i) 0 ∧ hexF A = s.take (2 * i)
  | 0, _ => ⟨[], rfl, rfl, rfl⟩
  | i + 1, hi => by
    obtain ⟨A, hA, hacc, hhex⟩ := acc_hex s h64 hall i (by omega)
    obtain ⟨a, ha⟩ : ∃ a, a = s.getD (2 * i) 0 := ⟨_, rfl⟩
    obtain ⟨b, hb⟩ : ∃ b, b = s.getD (2 * i + 1) 0 := ⟨_, rfl⟩
    have oka : okd a = true := by rw [ha]; exact all_getD s hall _ (by omega)
    have okb : okd b = true := by rw [hb]; exact all_getD s hall _ (by omega)
    have da := dv_lt a
    have db := dv_lt b
    have da0 : 0 ≤ dv a := of_decide_eq_true oka
    have db0 : 0 ≤ dv b := of_decide_eq_true okb
    obtain ⟨na, hna⟩ := Int.eq_ofNat_of_zero_le da0
    obtain ⟨nb, hnb⟩ := Int.eq_ofNat_of_zero_le db0
    have h1 : acc s (2 * i + 1) = A ++ UInt8.ofNat na :: List.replicate (31 - i) 0 := by
      rw [acc_succ]
      have e : (A ++ List.replicate (32 - i) (0 : UInt8)).getD (2 * i / 2) 0 = 0 := by
        rw [show 2 * i / 2 = i by omega, List.getD_eq_getElem?_getD, List.getElem?_append_right (by omega), List.getElem?_replicate]
        split <;> rfl
      rw [hacc, e, ← ha, hna, show 2 * i / 2 = i by omega, List.set_append_right _ _ (by omega), hA, Nat.sub_self, show 32 - i = (31 - i) + 1 by omega, List.replicate_succ, List.set_cons_zero]
      congr 2
      rw [Int.toNat_natCast]
      show UInt8.ofNat (0 * 16 % 256 + na) = _
      congr 1; omega
    have h2 : acc s (2 * (i + 1)) = A ++ [UInt8.ofNat (na * 16 + nb)] ++ List.replicate (32 - (i + 1)) 0 := by
      rw [show 2 * (i + 1) = 2 * i + 1 + 1 by omega, acc_succ]
      have e : (A ++ UInt8.ofNat na :: List.replicate (31 - i) (0 : UInt8)).getD ((2 * i + 1) / 2) 0 = UInt8.ofNat na := by
        rw [show (2 * i + 1) / 2 = i by omega, List.getD_eq_getElem?_getD, List.getElem?_append_right (by omega), hA, Nat.sub_self]; rfl
      rw [h1, e, ← hb, hnb, show (2 * i + 1) / 2 = i by omega, List.set_append_right _ _ (by omega), hA, Nat.sub_self, List.set_cons_zero, List.append_assoc]
      congr 1
      rw [Int.toNat_natCast, UInt8.toNat_ofNat_of_lt' (by show na < 256; omega)]
      show UInt8.ofNat (na * 16 % 256 + nb) :: List.replicate (31 - i) 0 = UInt8.ofNat (na * 16 + nb) :: List.replicate (32 - (i + 1)) 0
      rw [show 31 - i = 32 - (i + 1) by omega, Nat.mod_eq_of_lt (show na * 16 < 256 by omega)]
    refine ⟨A ++ [UInt8.ofNat (na * 16 + nb)], by rw [List.length_append, hA]; rfl, h2, ?_⟩
    rw [hexF_snoc, hhex]
    have hn : (UInt8.ofNat (na * 16 + nb)).toNat = na * 16 + nb := UInt8.toNat_ofNat_of_lt' (by show _ < 256; omega)
    rw [hn, show (na * 16 + nb) / 16 = na by omega, show (na * 16 + nb) % 16 = nb by omega]
    have ea : hexd na = a := by have := hexd_dv a oka; rwa [hna] at this
    have eb : hexd nb = b := by have := hexd_dv b okb; rwa [hnb] at this
    rw [ea, eb, show 2 * (i + 1) = 2 * i + 1 + 1 by omega, List.take_add_one, List.take_add_one, List.getElem?_eq_getElem (show 2 * i < s.length by omega), List.getElem?_eq_getElem (show 2 * i + 1 < s.length by omega), ha, hb, List.getD_eq_getElem?_getD, List.getD_eq_getElem?_getD, List.getElem?_eq_getElem (show 2 * i < s.length by omega), List.getElem?_eq_getElem (show 2 * i + 1 < s.length by omega)]
    rfl
/-- What is read out of digits has these digits. -/
theorem par_back (s : List UInt8) (h : (parF s).2 = true) : hexF (parF s).1 = s := by
  unfold parF at h ⊢
  split at h
  · rename_i hc
    rw [if_pos hc]
    obtain ⟨A, hA, hacc, hhex⟩ := acc_hex s hc.1 hc.2 32 (Nat.le_refl _)
    have e : acc s 64 = A := by rw [show (64 : Nat) = 2 * 32 from rfl, hacc, Nat.sub_self, List.replicate_zero, List.append_nil]
    dsimp only
    rw [e, hhex, List.take_of_length_le (by omega)]
  · simp at h
theorem par_no (s : List UInt8) (h : (parF s).2 = false) : (parF s).1 = List.replicate 32 0 := by
  unfold parF at h ⊢
  split at h
  · simp at h
  · rename_i hc
    rw [if_neg hc]
/-- A hash's digits are read as it. -/
theorem par_hex (h : List UInt8) (hl : h.length = 32) : parF (hexF h) = (h, true) := by
  have h2 : (parF (hexF h)).2 = true := by
    unfold parF
    rw [if_pos ⟨by rw [hexF_len, hl], hexF_ok h⟩]
  have h1 := hexF_inj _ _ (par_back (hexF h) h2)
  rw [← h2]
  exact Prod.ext h1 rfl
theorem par_len (s : List UInt8) (h : s.length ≠ 64) : (parF s).2 = false := by
  unfold parF; rw [if_neg (fun hc => h hc.1)]
/-- One digit is another byte. -/
theorem par_one (h : List UInt8) (hl : h.length = 32) (k : Nat) (hk : k < 64) (c : UInt8) : (parF ((hexF h).take k ++ [c] ++ (hexF h).drop (k + 1))).2 = okd c := by
  have h64 : (hexF h).length = 64 := by rw [hexF_len, hl]
  have hlen : ((hexF h).take k ++ [c] ++ (hexF h).drop (k + 1)).length = 64 := by
    rw [List.length_append, List.length_append, List.length_take, List.length_drop, List.length_singleton, h64]; omega
  have hall := hexF_ok h
  have h1 : ((hexF h).take k).all okd = true := List.all_eq_true.2 fun x hx => List.all_eq_true.1 hall x (List.mem_of_mem_take hx)
  have h2 : ((hexF h).drop (k + 1)).all okd = true := List.all_eq_true.2 fun x hx => List.all_eq_true.1 hall x (List.mem_of_mem_drop hx)
  have ha : ((hexF h).take k ++ [c] ++ (hexF h).drop (k + 1)).all okd = okd c := by
    rw [List.all_append, List.all_append, h1, h2]; simp
  unfold parF
  cases ho : okd c
  · rw [if_neg (fun hc => by rw [ha, ho] at hc; exact absurd hc.2 (by simp))]
  · rw [if_pos ⟨hlen, by rw [ha, ho]⟩]
end Go.Proofs.Ytcmjpdfkacmogaa.Sha
