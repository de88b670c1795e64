/- Chapter 5: the document's groups and text, in plain words. -/
import Derived.Test.YtbohpjbcjnapfaaTupS
import Derived.Test.YtbohpjbcjnapfaaX37
import Derived.Test.YtbohpjbcjnapfaaX38
namespace Go.Proofs.Ytbohpjbcjnapfaa.TupM
open Go.RowKit Go.Proofs.Ytbohpjbcjnapfaa.X Go.Proofs.YtbohpjbcjnapfaaW.PrintWords Go.Proofs.YtbohpjbcjnapfaaW.PrintLast
set_option linter.unusedVariables false
set_option linter.unusedSimpArgs false

theorem tx_append (a b : List UInt8) : tx a ++ tx b = tx (a ++ b) := by
  have h : (tx a ++ tx b).data.toList = a ++ b := by
    rw [ByteArray.data_append, Array.toList_append]; rfl
  rw [← h, tx_toList]
theorem one_num (n : Nat) : strOfNums [((n : Int)) % 256] = tx [UInt8.ofNat n] := by
  have : strOfNums [((n : Int)) % 256] = tx [UInt8.ofNat (((n : Int)) % 256).toNat] := rfl
  rw [this]
  congr 2
  apply UInt8.toNat_inj.1
  simp
  omega
theorem groups_l1 (y : List UInt8) (n : Nat) (hy : y.length ≤ 1099511627776) : ∀ (d : Nat) (x : List UInt8) (k : Nat), x.length + d = 8 → d < k →
    cofferref05_groups.l1 k (tx x) (tx y) (n : Int) = some (tx (y ++ (x ++ List.replicate d 0) ++ [UInt8.ofNat n]))
  | 0, x, k, e, hk => by
    obtain ⟨k, rfl⟩ : ∃ q, k = q + 1 := ⟨k - 1, by omega⟩
    simp only [cofferref05_groups.l1]
    rw [if_neg (by rw [tx_size]; omega), if_pos (by rw [tx_size, tx_size]; omega)]
    simp only [Option.bind_some]
    rw [one_num, tx_append, if_pos (by rw [tx_size, tx_size, List.length_append, List.length_singleton]; omega), tx_append]
    simp
  | d + 1, x, k, e, hk => by
    obtain ⟨k, rfl⟩ : ∃ q, k = q + 1 := ⟨k - 1, by omega⟩
    simp only [cofferref05_groups.l1]
    rw [if_pos (by rw [tx_size]; omega), if_pos (by rw [tx_size]; omega)]
    have : tx x ++ (⟨#[0]⟩ : ByteArray) = tx (x ++ [0]) := tx_append x [0]
    rw [this, groups_l1 y n hy d (x ++ [0]) k (by rw [List.length_append, List.length_singleton]; omega) (by omega)]
    simp [List.replicate_succ]
theorem groups_l0 : ∀ (m : Nat) (x y : List UInt8), x.length < m → x.length + x.length + y.length ≤ 1099511627776 → ∃ K, ∀ k, K ≤ k → cofferref05_groups.l0 k (tx x) (tx y) = some (tx (y ++ grp x))
  | 0, x, y, h, _ => by omega
  | m + 1, x, y, hm, hl => by
    by_cases h8 : 8 < x.length
    · obtain ⟨K, hK⟩ := groups_l0 m (x.drop 8) (y ++ x.take 8 ++ [9]) (by rw [List.length_drop]; omega) (by simp only [List.length_append, List.length_drop, List.length_take, List.length_singleton]; omega)
      refine ⟨K + 1, fun k hk => ?_⟩
      obtain ⟨k, rfl⟩ : ∃ q, k = q + 1 := ⟨k - 1, by omega⟩
      simp only [cofferref05_groups.l0]
      have e9 : tx (y ++ x.take 8) ++ (⟨#[9]⟩ : ByteArray) = tx (y ++ x.take 8 ++ [9]) := tx_append _ [9]
      rw [tx_upto, tx_from, tx_append, e9, hK k (by omega), tx_size, tx_size, tx_size, tx_size, if_pos (by omega), if_pos (by omega), if_pos (by omega), if_pos (by rw [List.length_take]; omega), if_pos (by rw [List.length_append, List.length_take]; omega), grp_long h8]
      simp
    · refine ⟨12, fun k hk => ?_⟩
      obtain ⟨k, rfl⟩ : ∃ q, k = q + 1 := ⟨k - 1, by omega⟩
      simp only [cofferref05_groups.l0]
      rw [tx_size, if_neg (by omega), groups_l1 y x.length (by omega) (8 - x.length) x k (by omega) (by omega), grp_short (by omega)]
      simp
theorem groups_f (x : List UInt8) (h : x.length ≤ 4194304) : ∃ K, ∀ k, K ≤ k → cofferref05_groups.f k (tx x) = some (tx (grp x)) := by
  obtain ⟨K, hK⟩ := groups_l0 (x.length + 1) x [] (by omega) (by simp; omega)
  exact ⟨K, fun k hk => hK k hk⟩
theorem grp_len8 (j : Nat) : ∀ t : List UInt8, t.length = 8 * (j + 1) → (grp t).length = 9 * (j + 1) := by
  induction j with
  | zero => intro t h; rw [grp_short (by omega)]; simp; omega
  | succ j ih =>
    intro t h
    rw [grp_long (by omega)]
    have := ih (t.drop 8) (by rw [List.length_drop]; omega)
    rw [List.length_append, List.length_cons, this, List.length_take]; omega
theorem w64n (n : Nat) (h : n < 4294967296) (c : Nat) (hc : c ≤ 1000) : wrap64 ((n : Int) + (c : Int)) = ((n + c : Nat) : Int) := by unfold wrap64; omega
theorem text_l0 (b : List UInt8) (hb : b.length ≤ 1048576) : ∀ (m at' j : Nat) (acc : List UInt8), b.length - at' < m → at' = 9 * j → acc.length = 8 * j → at' ≤ b.length →
    ∃ K, ∀ k, K ≤ k → ∃ t' n' ok, cofferref05_text.l0 k (tx b) (tx acc) (at' : Int) = some (t', n', ok) ∧
      (match rdL (b.drop at') acc with | none => ok = false | some q => ok = decide (grp q.1 ++ q.2 = b) ∧ (ok = true → t' = tx q.1 ∧ n' = ((b.length - q.2.length : Nat) : Int)))
  | 0, at', j, acc, h, _, _, _ => by omega
  | m + 1, at', j, acc, hm, hj, ha, hle => by
    have e9 : wrap64 ((at' : Int) + 9) = ((at' + 9 : Nat) : Int) := w64n at' (by omega) 9 (by omega)
    have e8 : wrap64 ((at' : Int) + 8) = ((at' + 8 : Nat) : Int) := w64n at' (by omega) 8 (by omega)
    rw [rdL]
    by_cases h8 : (b.drop at').length ≤ 8
    · refine ⟨1, fun k hk => ?_⟩
      obtain ⟨k, rfl⟩ : ∃ q, k = q + 1 := ⟨k - 1, by omega⟩
      rw [dif_pos h8]
      rw [List.length_drop] at h8
      simp only [cofferref05_text.l0]
      rw [e9]; clear e9 e8
      rw [if_neg (by rw [tx_size]; omega)]
      exact ⟨_, _, _, rfl, rfl⟩
    · rw [dif_neg h8]
      rw [List.length_drop] at h8
      have hi : at' + 8 < b.length := by omega
      have hg : ∀ h, (b.drop at')[8]'h = b[at' + 8] := fun h => by rw [List.getElem_drop]
      have hbt : wrap64 (bt (tx b) ((at' + 8 : Nat) : Int)) = ((b[at' + 8]).toNat : Int) := by rw [bt_tx b (at' + 8) hi, w64_byte]
      simp only [hg]
      obtain ⟨c, hc⟩ : ∃ c, c = (b[at' + 8]).toNat := ⟨_, rfl⟩
      rw [← hc] at hbt ⊢
      have h1 : ∀ k, cofferref05_text.l0 (k + 1) (tx b) (tx acc) (at' : Int) = if (c : Int) = 9 then cofferref05_text.l0 k (tx b) (tx (acc ++ (b.drop at').take 8)) ((at' + 9 : Nat) : Int)
          else if (c : Int) > 9 then some (tx [], 0, false) else if (c : Int) = 0 ∧ 0 < at' then some (tx [], 0, false)
          else (cofferref05_groups.f k (tx (acc ++ (b.drop at').take c))).bind fun t => some (tx (acc ++ (b.drop at').take c), ((at' + 9 : Nat) : Int), (t.toList == b.take (at' + 9))) := by
        intro k
        simp only [cofferref05_text.l0]
        rw [e9, e8, hbt]; clear e9 e8 hbt
        rw [if_pos (by rw [tx_size]; omega), if_pos (by omega), if_pos (by rw [tx_size]; omega)]
        by_cases h9 : (c : Int) = 9
        · rw [if_pos h9, if_pos h9, if_pos (by omega), if_pos (by omega), if_pos (by rw [tx_size]; omega), Int.toNat_natCast, Int.toNat_natCast, tx_ext, tx_append, if_pos (by rw [tx_size, tx_size, List.length_take, List.length_drop]; omega), Nat.add_sub_cancel_left]
        · rw [if_neg h9, if_neg h9]
          by_cases hg9 : (c : Int) > 9
          · rw [if_pos hg9, if_pos hg9]; rfl
          · rw [if_neg hg9, if_neg hg9]
            have ec : wrap64 ((at' : Int) + (c : Int)) = ((at' + c : Nat) : Int) := w64n at' (by omega) c (by omega)
            have tail : (if 0 ≤ (at' : Int) then (if (at' : Int) ≤ (wrap64 ((at' : Int) + (c : Int))) then (if (wrap64 ((at' : Int) + (c : Int))) ≤ ((tx b).size : Int) then (if (tx acc).size + ((tx b).extract (at' : Int).toNat ((wrap64 ((at' : Int) + (c : Int))) : Int).toNat).size ≤ 9223372036854775807 then ((cofferref05_groups.f k (tx acc ++ ((tx b).extract (at' : Int).toNat ((wrap64 ((at' : Int) + (c : Int))) : Int).toNat))).bind fun t175 => (if 0 ≤ ((at' + 9 : Nat) : Int) then (some (tx acc ++ ((tx b).extract (at' : Int).toNat ((wrap64 ((at' : Int) + (c : Int))) : Int).toNat), ((at' + 9 : Nat) : Int), (t175.toList == ((tx b).extract 0 (((at' + 9 : Nat) : Int) : Int).toNat).toList))) else (none))) else (none)) else (none)) else (none)) else (none)) =
                (cofferref05_groups.f k (tx (acc ++ (b.drop at').take c))).bind fun t => some (tx (acc ++ (b.drop at').take c), ((at' + 9 : Nat) : Int), (t.toList == b.take (at' + 9))) := by
              rw [ec]; clear ec
              rw [if_pos (by omega), if_pos (by omega), if_pos (by rw [tx_size]; omega), Int.toNat_natCast, Int.toNat_natCast, Int.toNat_natCast, tx_ext, tx_append, Nat.add_sub_cancel_left, if_pos (by rw [tx_size, tx_size, List.length_take, List.length_drop]; omega), tx_upto, tx_tl]
              simp only [if_pos (show (0 : Int) ≤ ((at' + 9 : Nat) : Int) by omega)]
            clear ec
            by_cases h0 : (c : Int) = 0
            · rw [if_pos h0]
              by_cases hp : 0 < at'
              · rw [if_pos (show (at' : Int) > 0 by omega), if_pos (show (c : Int) = 0 ∧ 0 < at' from ⟨h0, hp⟩)]; rfl
              · rw [if_neg (show ¬ ((at' : Int) > 0) by omega), if_neg (show ¬ ((c : Int) = 0 ∧ 0 < at') from fun h => hp h.2), tail]
            · rw [if_neg h0, if_neg (show ¬ ((c : Int) = 0 ∧ 0 < at') from fun h => h0 h.1), tail]
      clear e9 e8 hbt
      by_cases h9 : c = 9
      · rw [if_pos h9]
        obtain ⟨K, hK⟩ := text_l0 b hb m (at' + 9) (j + 1) (acc ++ (b.drop at').take 8) (by omega) (by omega) (by rw [List.length_append, List.length_take, List.length_drop]; omega) (by omega)
        refine ⟨K + 1, fun k hk => ?_⟩
        obtain ⟨k, rfl⟩ : ∃ q, k = q + 1 := ⟨k - 1, by omega⟩
        obtain ⟨t', n', ok, e, hm'⟩ := hK k (by omega)
        rw [h1 k, if_pos (by omega), List.drop_drop]
        exact ⟨t', n', ok, e, hm'⟩
      · rw [if_neg h9]
        by_cases hg9 : c < 9
        · rw [if_pos hg9]
          simp only
          have ht : (acc ++ (b.drop at').take c).length = 8 * j + c := by rw [List.length_append, List.length_take, List.length_drop]; omega
          have hr : (List.drop 9 (b.drop at')) = b.drop (at' + 9) := by rw [List.drop_drop]
          rw [hr]
          by_cases h0 : c = 0 ∧ 0 < at'
          · refine ⟨1, fun k hk => ?_⟩
            obtain ⟨k, rfl⟩ : ∃ q, k = q + 1 := ⟨k - 1, by omega⟩
            rw [h1 k, if_neg (by omega), if_neg (by omega), if_pos (by omega)]
            refine ⟨_, _, _, rfl, ?_, fun h => by cases h⟩
            refine (decide_eq_false fun e => ?_).symm
            have := congrArg List.length e
            rw [List.length_append, grp_len8 (j - 1) _ (by omega), List.length_drop] at this
            omega
          · obtain ⟨K, hK⟩ := groups_f (acc ++ (b.drop at').take c) (by omega)
            refine ⟨K + 1, fun k hk => ?_⟩
            obtain ⟨k, rfl⟩ : ∃ q, k = q + 1 := ⟨k - 1, by omega⟩
            rw [h1 k, if_neg (by omega), if_neg (by omega), if_neg (by omega), hK k (by omega)]
            refine ⟨_, _, _, rfl, ?_, fun _ => ⟨rfl, ?_⟩⟩
            · rw [tx_tl]
              have e : (grp (acc ++ (b.drop at').take c) ++ b.drop (at' + 9) = b) ↔ (grp (acc ++ (b.drop at').take c) = b.take (at' + 9)) := by
                constructor
                · intro h
                  have h2 := h.trans (List.take_append_drop (at' + 9) b).symm
                  exact List.append_cancel_right h2
                · intro h; rw [h, List.take_append_drop]
              rw [Bool.eq_iff_iff, beq_iff_eq, decide_eq_true_iff, e]
            · rw [List.length_drop]; congr 1; omega
        · rw [if_neg hg9]
          refine ⟨1, fun k hk => ?_⟩
          obtain ⟨k, rfl⟩ : ∃ q, k = q + 1 := ⟨k - 1, by omega⟩
          rw [h1 k, if_neg (by omega), if_pos (by omega)]
          exact ⟨_, _, _, rfl, rfl⟩
theorem text_f (b : List UInt8) (hb : b.length ≤ 1048576) : ∃ K, ∀ k, K ≤ k → ∃ t' n' ok, cofferref05_text.f k (tx b) = some (t', n', ok) ∧
      (match rdL b [] with | none => ok = false | some q => ok = decide (grp q.1 ++ q.2 = b) ∧ (ok = true → t' = tx q.1 ∧ n' = ((b.length - q.2.length : Nat) : Int))) :=
  text_l0 b hb (b.length + 1) 0 0 [] (by omega) rfl rfl (by omega)
end Go.Proofs.Ytbohpjbcjnapfaa.TupM
