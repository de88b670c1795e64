/- Chapter 5: the document's groups, text and Read; the same lists; head's examples. -/
import Derived.Test.YtbohpjbcjnapfaaTupS
import Derived.Test.YtbohpjbcjnapfaaX37
import Derived.Test.YtbohpjbcjnapfaaX38
import Derived.Test.YtbohpjbcjnapfaaX39
import Derived.Test.YtbohpjbcjnapfaaX40
import Derived.Test.YtbohpjbcjnapfaaX20
import Derived.Test.YtbohpjbcjnapfaaX21
import Derived.Test.YtbohpjbcjnapfaaX31
import Derived.Test.YtbohpjbcjnapfaaX36
import Derived.Test.YtbohpjbcjnapfaaX41
namespace Go.Proofs.Ytbohpjbcjnapfaa.TupM
open Go.RowKit Go.Proofs.Ytbohpjbcjnapfaa.X Go.Proofs.YtbohpjbcjnapfaaW.PrintWords Go.Proofs.YtbohpjbcjnapfaaW.PrintLast
set_option linter.unusedVariables false
set_option linter.unusedSimpArgs false

theorem tx_append (a b : List UInt8) : tx a ++ tx b = tx (a ++ b) := by
  have h : (tx a ++ tx b).data.toList = a ++ b := by
    rw [ByteArray.data_append, Array.toList_append]; rfl
  rw [← h, tx_toList]
theorem one_num (n : Nat) : strOfNums [((n : Int)) % 256] = tx [UInt8.ofNat n] := by
  have : strOfNums [((n : Int)) % 256] = tx [UInt8.ofNat (((n : Int)) % 256).toNat] := rfl
  rw [this]
  congr 2
  apply UInt8.toNat_inj.1
  simp
  omega
theorem groups_l1 (y : List UInt8) (n : Nat) (hy : y.length ≤ 1099511627776) : ∀ (d : Nat) (x : List UInt8) (k : Nat), x.length + d = 8 → d < k →
    cofferref05_groups.l1 k (tx x) (tx y) (n : Int) = some (tx (y ++ (x ++ List.replicate d 0) ++ [UInt8.ofNat n]))
  | 0, x, k, e, hk => by
    obtain ⟨k, rfl⟩ : ∃ q, k = q + 1 := ⟨k - 1, by omega⟩
    simp only [cofferref05_groups.l1]
    rw [if_neg (by rw [tx_size]; omega), if_pos (by rw [tx_size, tx_size]; omega)]
    simp only [Option.bind_some]
    rw [one_num, tx_append, if_pos (by rw [tx_size, tx_size, List.length_append, List.length_singleton]; omega), tx_append]
    simp
  | d + 1, x, k, e, hk => by
    obtain ⟨k, rfl⟩ : ∃ q, k = q + 1 := ⟨k - 1, by omega⟩
    simp only [cofferref05_groups.l1]
    rw [if_pos (by rw [tx_size]; omega), if_pos (by rw [tx_size]; omega)]
    have : tx x ++ (⟨#[0]⟩ : ByteArray) = tx (x ++ [0]) := tx_append x [0]
    rw [this, groups_l1 y n hy d (x ++ [0]) k (by rw [List.length_append, List.length_singleton]; omega) (by omega)]
    simp [List.replicate_succ]
theorem groups_l0 : ∀ (m : Nat) (x y : List UInt8), x.length < m → x.length + x.length + y.length ≤ 1099511627776 → ∃ K, ∀ k, K ≤ k → cofferref05_groups.l0 k (tx x) (tx y) = some (tx (y ++ grp x))
  | 0, x, y, h, _ => by omega
  | m + 1, x, y, hm, hl => by
    by_cases h8 : 8 < x.length
    · obtain ⟨K, hK⟩ := groups_l0 m (x.drop 8) (y ++ x.take 8 ++ [9]) (by rw [List.length_drop]; omega) (by simp only [List.length_append, List.length_drop, List.length_take, List.length_singleton]; omega)
      refine ⟨K + 1, fun k hk => ?_⟩
      obtain ⟨k, rfl⟩ : ∃ q, k = q + 1 := ⟨k - 1, by omega⟩
      simp only [cofferref05_groups.l0]
      have e9 : tx (y ++ x.take 8) ++ (⟨#[9]⟩ : ByteArray) = tx (y ++ x.take 8 ++ [9]) := tx_append _ [9]
      rw [tx_upto, tx_from, tx_append, e9, hK k (by omega), tx_size, tx_size, tx_size, tx_size, if_pos (by omega), if_pos (by omega), if_pos (by omega), if_pos (by rw [List.length_take]; omega), if_pos (by rw [List.length_append, List.length_take]; omega), grp_long h8]
      simp
    · refine ⟨12, fun k hk => ?_⟩
      obtain ⟨k, rfl⟩ : ∃ q, k = q + 1 := ⟨k - 1, by omega⟩
      simp only [cofferref05_groups.l0]
      rw [tx_size, if_neg (by omega), groups_l1 y x.length (by omega) (8 - x.length) x k (by omega) (by omega), grp_short (by omega)]
      simp
theorem groups_f (x : List UInt8) (h : x.length ≤ 4194304) : ∃ K, ∀ k, K ≤ k → cofferref05_groups.f k (tx x) = some (tx (grp x)) := by
  obtain ⟨K, hK⟩ := groups_l0 (x.length + 1) x [] (by omega) (by simp; omega)
  exact ⟨K, fun k hk => hK k hk⟩
theorem grp_len8 (j : Nat) : ∀ t : List UInt8, t.length = 8 * (j + 1) → (grp t).length = 9 * (j + 1) := by
  induction j with
  | zero => intro t h; rw [grp_short (by omega)]; simp; omega
  | succ j ih =>
    intro t h
    rw [grp_long (by omega)]
    have := ih (t.drop 8) (by rw [List.length_drop]; omega)
    rw [List.length_append, List.length_cons, this, List.length_take]; omega
theorem w64n (n : Nat) (h : n < 4294967296) (c : Nat) (hc : c ≤ 1000) : wrap64 ((n : Int) + (c : Int)) = ((n + c : Nat) : Int) := by unfold wrap64; omega
theorem text_l0 (b : List UInt8) (hb : b.length ≤ 1048576) : ∀ (m at' j : Nat) (acc : List UInt8), b.length - at' < m → at' = 9 * j → acc.length = 8 * j → at' ≤ b.length →
    ∃ K, ∀ k, K ≤ k → ∃ t' n' ok, cofferref05_text.l0 k (tx b) (tx acc) (at' : Int) = some (t', n', ok) ∧
      (match rdL (b.drop at') acc with | none => ok = false | some q => ok = decide (grp q.1 ++ q.2 = b) ∧ (ok = true → t' = tx q.1 ∧ n' = ((b.length - q.2.length : Nat) : Int)))
  | 0, at', j, acc, h, _, _, _ => by omega
  | m + 1, at', j, acc, hm, hj, ha, hle => by
    have e9 : wrap64 ((at' : Int) + 9) = ((at' + 9 : Nat) : Int) := w64n at' (by omega) 9 (by omega)
    have e8 : wrap64 ((at' : Int) + 8) = ((at' + 8 : Nat) : Int) := w64n at' (by omega) 8 (by omega)
    rw [rdL]
    by_cases h8 : (b.drop at').length ≤ 8
    · refine ⟨1, fun k hk => ?_⟩
      obtain ⟨k, rfl⟩ : ∃ q, k = q + 1 := ⟨k - 1, by omega⟩
      rw [dif_pos h8]
      rw [List.length_drop] at h8
      simp only [cofferref05_text.l0]
      rw [e9]; clear e9 e8
      rw [if_neg (by rw [tx_size]; omega)]
      exact ⟨_, _, _, rfl, rfl⟩
    · rw [dif_neg h8]
      rw [List.length_drop] at h8
      have hi : at' + 8 < b.length := by omega
      have hg : ∀ h, (b.drop at')[8]'h = b[at' + 8] := fun h => by rw [List.getElem_drop]
      have hbt : wrap64 (bt (tx b) ((at' + 8 : Nat) : Int)) = ((b[at' + 8]).toNat : Int) := by rw [bt_tx b (at' + 8) hi, w64_byte]
      simp only [hg]
      obtain ⟨c, hc⟩ : ∃ c, c = (b[at' + 8]).toNat := ⟨_, rfl⟩
      rw [← hc] at hbt ⊢
      have h1 : ∀ k, cofferref05_text.l0 (k + 1) (tx b) (tx acc) (at' : Int) = if (c : Int) = 9 then cofferref05_text.l0 k (tx b) (tx (acc ++ (b.drop at').take 8)) ((at' + 9 : Nat) : Int)
          else if (c : Int) > 9 then some (tx [], 0, false) else if (c : Int) = 0 ∧ 0 < at' then some (tx [], 0, false)
          else (cofferref05_groups.f k (tx (acc ++ (b.drop at').take c))).bind fun t => some (tx (acc ++ (b.drop at').take c), ((at' + 9 : Nat) : Int), (t.toList == b.take (at' + 9))) := by
        intro k
        simp only [cofferref05_text.l0]
        rw [e9, e8, hbt]; clear e9 e8 hbt
        rw [if_pos (by rw [tx_size]; omega), if_pos (by omega), if_pos (by rw [tx_size]; omega)]
        by_cases h9 : (c : Int) = 9
        · rw [if_pos h9, if_pos h9, if_pos (by omega), if_pos (by omega), if_pos (by rw [tx_size]; omega), Int.toNat_natCast, Int.toNat_natCast, tx_ext, tx_append, if_pos (by rw [tx_size, tx_size, List.length_take, List.length_drop]; omega), Nat.add_sub_cancel_left]
        · rw [if_neg h9, if_neg h9]
          by_cases hg9 : (c : Int) > 9
          · rw [if_pos hg9, if_pos hg9]; rfl
          · rw [if_neg hg9, if_neg hg9]
            have ec : wrap64 ((at' : Int) + (c : Int)) = ((at' + c : Nat) : Int) := w64n at' (by omega) c (by omega)
            have tail : (if 0 ≤ (at' : Int) then (if (at' : Int) ≤ (wrap64 ((at' : Int) + (c : Int))) then (if (wrap64 ((at' : Int) + (c : Int))) ≤ ((tx b).size : Int) then (if (tx acc).size + ((tx b).extract (at' : Int).toNat ((wrap64 ((at' : Int) + (c : Int))) : Int).toNat).size ≤ 9223372036854775807 then ((cofferref05_groups.f k (tx acc ++ ((tx b).extract (at' : Int).toNat ((wrap64 ((at' : Int) + (c : Int))) : Int).toNat))).bind fun t175 => (if 0 ≤ ((at' + 9 : Nat) : Int) then (some (tx acc ++ ((tx b).extract (at' : Int).toNat ((wrap64 ((at' : Int) + (c : Int))) : Int).toNat), ((at' + 9 : Nat) : Int), (t175.toList == ((tx b).extract 0 (((at' + 9 : Nat) : Int) : Int).toNat).toList))) else (none))) else (none)) else (none)) else (none)) else (none)) =
                (cofferref05_groups.f k (tx (acc ++ (b.drop at').take c))).bind fun t => some (tx (acc ++ (b.drop at').take c), ((at' + 9 : Nat) : Int), (t.toList == b.take (at' + 9))) := by
              rw [ec]; clear ec
              rw [if_pos (by omega), if_pos (by omega), if_pos (by rw [tx_size]; omega), Int.toNat_natCast, Int.toNat_natCast, Int.toNat_natCast, tx_ext, tx_append, Nat.add_sub_cancel_left, if_pos (by rw [tx_size, tx_size, List.length_take, List.length_drop]; omega), tx_upto, tx_tl]
              simp only [if_pos (show (0 : Int) ≤ ((at' + 9 : Nat) : Int) by omega)]
            clear ec
            by_cases h0 : (c : Int) = 0
            · rw [if_pos h0]
              by_cases hp : 0 < at'
              · rw [if_pos (show (at' : Int) > 0 by omega), if_pos (show (c : Int) = 0 ∧ 0 < at' from ⟨h0, hp⟩)]; rfl
              · rw [if_neg (show ¬ ((at' : Int) > 0) by omega), if_neg (show ¬ ((c : Int) = 0 ∧ 0 < at') from fun h => hp h.2), tail]
            · rw [if_neg h0, if_neg (show ¬ ((c : Int) = 0 ∧ 0 < at') from fun h => h0 h.1), tail]
      clear e9 e8 hbt
      by_cases h9 : c = 9
      · rw [if_pos h9]
        obtain ⟨K, hK⟩ := text_l0 b hb m (at' + 9) (j + 1) (acc ++ (b.drop at').take 8) (by omega) (by omega) (by rw [List.length_append, List.length_take, List.length_drop]; omega) (by omega)
        refine ⟨K + 1, fun k hk => ?_⟩
        obtain ⟨k, rfl⟩ : ∃ q, k = q + 1 := ⟨k - 1, by omega⟩
        obtain ⟨t', n', ok, e, hm'⟩ := hK k (by omega)
        rw [h1 k, if_pos (by omega), List.drop_drop]
        exact ⟨t', n', ok, e, hm'⟩
      · rw [if_neg h9]
        by_cases hg9 : c < 9
        · rw [if_pos hg9]
          simp only
          have ht : (acc ++ (b.drop at').take c).length = 8 * j + c := by rw [List.length_append, List.length_take, List.length_drop]; omega
          have hr : (List.drop 9 (b.drop at')) = b.drop (at' + 9) := by rw [List.drop_drop]
          rw [hr]
          by_cases h0 : c = 0 ∧ 0 < at'
          · refine ⟨1, fun k hk => ?_⟩
            obtain ⟨k, rfl⟩ : ∃ q, k = q + 1 := ⟨k - 1, by omega⟩
            rw [h1 k, if_neg (by omega), if_neg (by omega), if_pos (by omega)]
            refine ⟨_, _, _, rfl, ?_, fun h => by cases h⟩
            refine (decide_eq_false fun e => ?_).symm
            have := congrArg List.length e
            rw [List.length_append, grp_len8 (j - 1) _ (by omega), List.length_drop] at this
            omega
          · obtain ⟨K, hK⟩ := groups_f (acc ++ (b.drop at').take c) (by omega)
            refine ⟨K + 1, fun k hk => ?_⟩
            obtain ⟨k, rfl⟩ : ∃ q, k = q + 1 := ⟨k - 1, by omega⟩
            rw [h1 k, if_neg (by omega), if_neg (by omega), if_neg (by omega), hK k (by omega)]
            refine ⟨_, _, _, rfl, ?_, fun _ => ⟨rfl, ?_⟩⟩
            · rw [tx_tl]
              have e : (grp (acc ++ (b.drop at').take c) ++ b.drop (at' + 9) = b) ↔ (grp (acc ++ (b.drop at').take c) = b.take (at' + 9)) := by
                constructor
                · intro h
                  have h2 := h.trans (List.take_append_drop (at' + 9) b).symm
                  exact List.append_cancel_right h2
                · intro h; rw [h, List.take_append_drop]
              rw [Bool.eq_iff_iff, beq_iff_eq, decide_eq_true_iff, e]
            · rw [List.length_drop]; congr 1; omega
        · rw [if_neg hg9]
          refine ⟨1, fun k hk => ?_⟩
          obtain ⟨k, rfl⟩ : ∃ q, k = q + 1 := ⟨k - 1, by omega⟩
          rw [h1 k, if_neg (by omega), if_pos (by omega)]
          exact ⟨_, _, _, rfl, rfl⟩
theorem text_f (b : List UInt8) (hb : b.length ≤ 1048576) : ∃ K, ∀ k, K ≤ k → ∃ t' n' ok, cofferref05_text.f k (tx b) = some (t', n', ok) ∧
      (match rdL b [] with | none => ok = false | some q => ok = decide (grp q.1 ++ q.2 = b) ∧ (ok = true → t' = tx q.1 ∧ n' = ((b.length - q.2.length : Nat) : Int))) :=
  text_l0 b hb (b.length + 1) 0 0 [] (by omega) rfl rfl (by omega)

def cv (p : S52) : S58 := ⟨p.f0, p.f1, p.f2⟩
theorem rvalue_l0 (l : List UInt8) (h : 8 ≤ l.length) : ∀ (d i k : Nat), i + d = 8 → d < k → cofferref05_value.l0 k (tx l) (valF (l.take i)) (i : Int) = some (valF (l.take 8))
  | 0, i, k, e, hk => by
    obtain ⟨k, rfl⟩ : ∃ q, k = q + 1 := ⟨k - 1, by omega⟩
    obtain rfl : i = 8 := by omega
    simp only [cofferref05_value.l0]
    rw [if_neg (by omega)]
  | d + 1, i, k, e, hk => by
    obtain ⟨k, rfl⟩ : ∃ q, k = q + 1 := ⟨k - 1, by omega⟩
    simp only [cofferref05_value.l0]
    rw [if_pos (by omega), if_pos (by omega), if_pos (by rw [tx_size]; omega), valF_step l i (by omega) (by omega), w64_succ i (by omega)]
    exact rvalue_l0 l h d (i + 1) k (by omega) (by omega)
theorem rvalue_f (l : List UInt8) (h : 8 ≤ l.length) (k : Nat) (hk : 9 ≤ k) : cofferref05_value.f k (tx l) = some (valF (l.take 8)) := rvalue_l0 l h 8 0 k (by omega) (by omega)
theorem rread_l0 : ∀ (n : Nat) (l : List UInt8) (x4 : List S58), l.length < n → l.length ≤ 1048576 → l.length + x4.length ≤ 2097152 →
    ∃ K, ∀ k, K ≤ k → cofferref05_Read.l0 k (tx l) x4 = some (match psA n l with | none => ([], 4) | some ps => (x4 ++ ps.map cv, 0))
  | 0, l, x4, hn, _, _ => by omega
  | n + 1, [], x4, hn, _, _ => by
    refine ⟨1, fun k hk => ?_⟩
    obtain ⟨k, rfl⟩ : ∃ q, k = q + 1 := ⟨k - 1, by omega⟩
    simp only [cofferref05_Read.l0, psA]
    rw [if_pos (tx_tl [])]
    simp
  | n + 1, c :: l, x4, hn, hl, hx => by
    simp only [List.length_cons] at hn hl hx
    have hb : bt (tx (c :: l)) 0 = (c.toNat : Int) := bt_tx (c :: l) 0 (by simp)
    have hx1 : (tx (c :: l)).extract 1 (tx (c :: l)).size = tx l := by rw [tx_from]; rfl
    have hs : (tx (c :: l)).size = l.length + 1 := by rw [tx_size, List.length_cons]
    have h9 : (tx (c :: l)).extract (9 : Int).toNat (tx (c :: l)).size = tx (l.drop 8) := by rw [tx_from]; rfl
    have rec_ : ∀ (p : S52) (r : List UInt8), pt (c :: l) = some (p, r) → ∃ K, ∀ k, K ≤ k → cofferref05_Read.l0 k (tx r) (x4 ++ [cv p]) = some (match psA n r with | none => ([], 4) | some ps => (x4 ++ cv p :: ps.map cv, 0)) := by
      intro p r hp
      obtain ⟨_, h1, _⟩ := pt_some hp
      simp only [List.length_cons] at h1
      obtain ⟨K, hK⟩ := rread_l0 n r (x4 ++ [cv p]) (by omega) (by omega) (by rw [List.length_append, List.length_singleton]; omega)
      refine ⟨K, fun k hk => ?_⟩
      rw [hK k hk]
      cases psA n r with
      | none => rfl
      | some ps => simp [List.append_assoc]
    have hps : psA (n + 1) (c :: l) = (pt (c :: l)).bind fun q => if encP q.1 ++ q.2 = c :: l then (psA n q.2).map (q.1 :: ·) else none := by
      simp only [psA]; rw [if_neg (by simp)]
    rw [hps]
    have start : ∀ k, cofferref05_Read.l0 (k + 1) (tx (c :: l)) x4 = if (c.toNat : Int) = 1 then ((cofferref05_text.f k (tx l)).bind fun bt178 => (if bt178.2.2 = true then (if x4.length < 4398046511104 then (if 0 ≤ (wrap64 (bt178.2.1 + 1)) then (if (wrap64 (bt178.2.1 + 1)) ≤ ((tx (c :: l)).size : Int) then (cofferref05_Read.l0 k ((tx (c :: l)).extract ((wrap64 (bt178.2.1 + 1)) : Int).toNat (tx (c :: l)).size) (x4 ++ [(⟨(c.toNat : Int), bt178.1, 0⟩ : S58)])) else (none)) else (none)) else (none)) else (some (([] : List (S58)), 4))))
        else if (c.toNat : Int) = 2 then cofferref05_Read.j1 k (tx (c :: l)) x4 9 (decide (((tx (c :: l)).size : Int) ≥ 9)) (decide (((tx (c :: l)).size : Int) ≥ 9)) (c.toNat : Int) (⟨#[]⟩ : ByteArray) 0
        else cofferref05_Read.j1 k (tx (c :: l)) x4 9 (decide (((tx (c :: l)).size : Int) ≥ 9)) false (c.toNat : Int) (⟨#[]⟩ : ByteArray) 0 := by
      intro k
      simp only [cofferref05_Read.l0]
      rw [hb, w64_byte]; clear hb
      rw [if_neg (by rw [tx_tl]; simp), if_pos (by omega), if_pos (show (1 : Int) ≤ ((tx (c :: l)).size : Int) by omega), hx1]
    clear hb
    by_cases h1 : c.toNat = 1
    · obtain ⟨K1, hK1⟩ := text_f l (by omega)
      have hc1 : c = 1 := byte_of h1 1 rfl
      cases hr : rdL l [] with
      | none =>
        have hp : pt (c :: l) = none := by simp only [pt]; rw [if_pos h1, hr]; rfl
        refine ⟨K1 + 1, fun k hk => ?_⟩
        obtain ⟨k, rfl⟩ : ∃ q, k = q + 1 := ⟨k - 1, by omega⟩
        obtain ⟨t', n', ok, e, hm⟩ := hK1 k (by omega)
        rw [hr] at hm
        simp only at hm
        subst hm
        rw [start k, if_pos (by omega), e, hp]
        simp
      | some q =>
        obtain ⟨t, r⟩ := q
        have hp : pt (c :: l) = some (⟨1, tx t, 0⟩, r) := by simp only [pt]; rw [if_pos h1, hr]; rfl
        have he : encP ⟨1, tx t, 0⟩ = 1 :: grp t := rfl
        obtain ⟨K2, hK2⟩ := rec_ _ _ hp
        obtain ⟨hle, _, c0, hc0⟩ := rdL_some hr
        refine ⟨K1 + K2 + 1, fun k hk => ?_⟩
        obtain ⟨k, rfl⟩ : ∃ q, k = q + 1 := ⟨k - 1, by omega⟩
        obtain ⟨t', n', ok, e, hm⟩ := hK1 k (by omega)
        rw [hr] at hm
        simp only at hm
        obtain ⟨hok, hm⟩ := hm
        rw [start k, if_pos (by omega), e, hp]
        simp only [Option.bind_some]
        rw [he, List.cons_append, hc1]
        by_cases hg : grp t ++ r = l
        · rw [decide_eq_true hg] at hok
          obtain ⟨rfl, rfl⟩ := hm hok
          have ew : wrap64 (((l.length - r.length : Nat) : Int) + 1) = ((l.length - r.length + 1 : Nat) : Int) := by unfold wrap64; omega
          have ed : (c :: l).drop (l.length - r.length + 1) = r := by
            rw [List.drop_succ_cons]; subst hc0; rw [List.length_append, Nat.add_sub_cancel, List.drop_left]
          rw [if_pos hok, ew]; clear ew
          rw [hc1] at hs
          rw [if_pos (by omega), if_pos (by omega), if_pos (by omega), Int.toNat_natCast, ← hc1, tx_from, ed, if_pos (by rw [hg, hc1])]
          have := hK2 k (by omega)
          have e2 : (⟨(c.toNat : Int), tx t, 0⟩ : S58) = cv ⟨1, tx t, 0⟩ := by rw [h1]; rfl
          rw [e2, this]
          cases psA n r with
          | none => rfl
          | some ps => rfl
        · rw [decide_eq_false hg] at hok
          rw [if_neg (by rw [hok]; simp), if_neg (by simpa using hg)]
    · by_cases h8 : l.length < 8
      · have hp : pt (c :: l) = none := by
          simp only [pt]; rw [if_neg h1]
          by_cases h2 : c.toNat = 2
          · rw [if_pos h2, if_pos h8]
          · rw [if_neg h2]
            by_cases h3 : c.toNat = 3
            · rw [if_pos h3, if_pos h8]
            · rw [if_neg h3]
        have hd : decide (((tx (c :: l)).size : Int) ≥ 9) = false := decide_eq_false (by omega)
        refine ⟨4, fun k hk => ?_⟩
        obtain ⟨k, rfl⟩ : ∃ q, k = q + 3 := ⟨k - 3, by omega⟩
        rw [start (k + 2), if_neg (by omega), hd, hp]
        have ej : ∀ x, cofferref05_Read.j1 (k + 2) (tx (c :: l)) x4 9 false false x (⟨#[]⟩ : ByteArray) 0 = some ([], 4) := by
          intro x
          simp only [cofferref05_Read.j1, cofferref05_Read.j2]
          simp
        simp [ej]
      · have hd : decide (((tx (c :: l)).size : Int) ≥ 9) = true := decide_eq_true (by omega)
        have num : ∀ (p : S52), pt (c :: l) = some (p, l.drop 8) → p.f0 ≠ 1 → ∀ (K : Nat) (f : Nat → Option (List S58 × Int)), (∀ k, K ≤ k → f k = cofferref05_Read.l0 k (tx (l.drop 8)) (x4 ++ [cv p])) → ∃ K', ∀ k, K' ≤ k → f k = some (match (pt (c :: l)).bind fun q => if encP q.1 ++ q.2 = c :: l then (psA n q.2).map (q.1 :: ·) else none with | none => ([], 4) | some ps => (x4 ++ ps.map cv, 0)) := by
          intro p hp hf K f hK
          obtain ⟨K2, hK2⟩ := rec_ _ _ hp
          refine ⟨K + K2, fun k hk => ?_⟩
          rw [hK k (by omega), hK2 k (by omega), hp]
          simp only [Option.bind_some]
          rw [if_pos ((pt_some hp).2.2.2.1 hf)]
          cases psA n (l.drop 8) with
          | none => rfl
          | some ps => rfl
        by_cases h2 : c.toNat = 2
        · have hp : pt (c :: l) = some (⟨2, tx [], ofR (valF (l.take 8))⟩, l.drop 8) := by simp only [pt]; rw [if_neg h1, if_pos h2, if_neg h8]
          obtain ⟨K', hK'⟩ := num _ hp (by simp) 12 (fun k => cofferref05_Read.l0 (k + 2) (tx (c :: l)) x4) (by
            intro k hk
            show cofferref05_Read.l0 (k + 1 + 1) _ _ = _
            rw [start (k + 1), if_neg (by omega), if_pos (by omega), hd]
            simp only [cofferref05_Read.j1]
            rw [if_pos trivial, if_pos (by omega), hx1, rvalue_f l (by omega) k (by omega)]
            simp only [Option.bind_some]
            rw [if_pos trivial, if_pos (by omega), if_pos (by omega), if_pos (by omega), h9, h2]
            rfl)
          refine ⟨K' + 2, fun k hk => ?_⟩
          obtain ⟨k, rfl⟩ : ∃ q, k = q + 2 := ⟨k - 2, by omega⟩
          exact hK' k (by omega)
        · by_cases h3 : c.toNat = 3
          · have hp : pt (c :: l) = some (⟨3, tx [], ofF (valF (l.take 8))⟩, l.drop 8) := by simp only [pt]; rw [if_neg h1, if_neg h2, if_pos h3, if_neg h8]
            obtain ⟨K', hK'⟩ := num _ hp (by simp) 12 (fun k => cofferref05_Read.l0 (k + 3) (tx (c :: l)) x4) (by
              intro k hk
              show cofferref05_Read.l0 (k + 2 + 1) _ _ = _
              rw [start (k + 2), if_neg (by omega), if_neg (by omega), hd]
              simp only [cofferref05_Read.j1, cofferref05_Read.j2]
              rw [if_neg (by simp), if_pos (by omega), if_pos trivial, if_pos (by omega), hx1, rvalue_f l (by omega) k (by omega)]
              simp only [Option.bind_some]
              rw [if_pos trivial, if_pos (by omega), if_pos (by omega), if_pos (by omega), h9, h3]
              rfl)
            refine ⟨K' + 3, fun k hk => ?_⟩
            obtain ⟨k, rfl⟩ : ∃ q, k = q + 3 := ⟨k - 3, by omega⟩
            exact hK' k (by omega)
          · have hp : pt (c :: l) = none := by simp only [pt]; rw [if_neg h1, if_neg h2, if_neg h3]
            refine ⟨4, fun k hk => ?_⟩
            obtain ⟨k, rfl⟩ : ∃ q, k = q + 3 := ⟨k - 3, by omega⟩
            rw [start (k + 2), if_neg (by omega), if_neg (by omega), hd, hp]
            simp only [cofferref05_Read.j1, cofferref05_Read.j2]
            rw [if_neg (by simp), if_neg (by omega), if_neg (by simp)]
            rfl
/-- THE DOCUMENT'S Read. -/
theorem rread_f (b : List UInt8) (h : b.length ≤ 1048576) : ∃ K, ∀ k, K ≤ k → cofferref05_Read.f k (tx b) = some (match psA (b.length + 1) b with | none => ([], 4) | some ps => (ps.map cv, 0)) := by
  obtain ⟨K, hK⟩ := rread_l0 (b.length + 1) b [] (by omega) (by omega) (by simp; omega)
  exact ⟨K, fun k hk => by unfold cofferref05_Read.f; rw [hK k hk]; simp⟩

theorem rd52 (l : List S52) (i : Nat) (h : i < l.length) : rd_T52 l (i : Int) = l[i] := by
  unfold rd_T52; rw [Int.toNat_natCast, List.getD_eq_getElem?_getD, List.getElem?_eq_getElem h]; rfl
theorem rd58 (l : List S58) (i : Nat) (h : i < l.length) : rd_T58 l (i : Int) = l[i] := by
  unfold rd_T58; rw [Int.toNat_natCast, List.getD_eq_getElem?_getD, List.getElem?_eq_getElem h]; rfl
theorem same_l0 (l : List S52) (hl : l.length ≤ 2097152) : ∀ (d i k : Nat), i + d = l.length → d < k → cofferlaw05_same.l0 k l (l.map cv) (i : Int) = some true
  | 0, i, k, e, hk => by
    obtain ⟨k, rfl⟩ : ∃ q, k = q + 1 := ⟨k - 1, by omega⟩
    simp only [cofferlaw05_same.l0]
    rw [if_neg (by rw [List.length_map]; omega)]
  | d + 1, i, k, e, hk => by
    obtain ⟨k, rfl⟩ : ∃ q, k = q + 1 := ⟨k - 1, by omega⟩
    have hi : i < l.length := by omega
    have e8 : rd_T58 (l.map cv) (i : Int) = cv l[i] := by rw [rd58 _ i (by rw [List.length_map]; exact hi), List.getElem_map]
    simp only [cofferlaw05_same.l0]
    rw [if_pos (by rw [List.length_map]; omega), if_pos (by omega), if_pos (by omega), e8, rd52 l i hi, if_pos (show l[i].f0 = (cv l[i]).f0 from rfl), if_pos (show l[i].f1.toList = (cv l[i]).f1.toList from rfl), if_pos (show l[i].f2 = (cv l[i]).f2 from rfl), w64_succ i (by omega)]
    exact same_l0 l hl d (i + 1) k (by omega) (by omega)
theorem same_f (l : List S52) (hl : l.length ≤ 2097152) (k : Nat) (hk : l.length < k) : cofferlaw05_same.f k l (l.map cv) = some true := by
  unfold cofferlaw05_same.f
  rw [if_pos (by rw [List.length_map])]
  exact same_l0 l hl l.length 0 k (by omega) hk
theorem limits_f (l : List S52) (b : List UInt8) (h : tuple_Write.f l = some (tx b, 0)) (hb : b.length ≤ 1000) : tuple_Limits.f l = some (tx b, tx (b ++ [255]), 0) := by
  unfold tuple_Limits.f
  rw [h]
  simp only [Option.bind_some]
  rw [if_pos trivial, if_pos (by rw [tx_size]; omega)]
  have : tx b ++ (⟨#[255]⟩ : ByteArray) = tx (b ++ [255]) := tx_append b [255]
  rw [this]
theorem psA_enc : ∀ (l : List S52) (n : Nat), (∀ p ∈ l, okP p) → l.length < n → psA n (encL l) = some l
  | [], n, _, hn => by
    obtain ⟨n, rfl⟩ : ∃ q, n = q + 1 := ⟨n - 1, by simp at hn; omega⟩
    simp only [psA]
    rw [if_pos (show encL [] = [] from rfl)]
  | p :: l, n, hv, hn => by
    obtain ⟨n, rfl⟩ : ∃ q, n = q + 1 := ⟨n - 1, by simp at hn; omega⟩
    have ok := hv p (by simp)
    have hp := pt_enc p ok (encL l)
    rw [encL_cons p l ok.1]
    have hne : ¬ encP p ++ encL l = [] := by
      intro e; rw [e] at hp; cases hp
    simp only [psA]
    rw [if_neg hne, hp]
    simp only [Option.bind_some]
    rw [if_pos trivial, psA_enc l n (fun q hq => hv q (by simp [hq])) (by simpa using hn)]
    rfl
theorem enc1 (t : List UInt8) (ht : t.length ≤ 8) : encP ⟨1, tx t, 0⟩ = 1 :: (t ++ List.replicate (8 - t.length) 0 ++ [UInt8.ofNat t.length]) := by
  show (1 : UInt8) :: grp t = _
  rw [grp_short ht]
theorem encF1 : encP ⟨3, tx [], 1⟩ = [3, 127, 255, 255, 255, 255, 255, 255, 254] := by kernel_rfl
theorem encR0 : encP ⟨2, tx [], 0⟩ = [2, 128, 0, 0, 0, 0, 0, 0, 0] := by kernel_rfl
theorem h_w1 : tuple_Write.f [⟨1, tx [97], 0⟩, ⟨3, tx [], 1⟩] = some (tx [1, 97, 0, 0, 0, 0, 0, 0, 0, 1, 3, 127, 255, 255, 255, 255, 255, 255, 254], 0) := by
  have e : encL [⟨1, tx [97], 0⟩, ⟨3, tx [], 1⟩] = [1, 97, 0, 0, 0, 0, 0, 0, 0, 1, 3, 127, 255, 255, 255, 255, 255, 255, 254] := by
    rw [encL_cons _ _ rfl, encL_cons _ _ (vld_num _ _ (.inr rfl)), enc1 _ (by decide), encF1]; rfl
  rw [write_f _ (by rw [e]; decide)]
  unfold wrF
  rw [e, if_pos (by simp [vld_num 3 1 (.inr rfl)]; rfl)]; rfl
theorem h_r1 : psA 11 [1, 97, 0, 0, 0, 0, 0, 0, 0, 2] = some [⟨1, tx [97, 0], 0⟩] := by
  have e : encL [⟨1, tx [97, 0], 0⟩] = [1, 97, 0, 0, 0, 0, 0, 0, 0, 2] := by
    rw [encL_cons _ _ rfl, enc1 _ (by decide)]; rfl
  rw [← e]
  exact psA_enc _ 11 (by intro p hp; rw [List.mem_singleton.1 hp]; exact ⟨rfl, by unfold i64; simp⟩) (by decide)
theorem h_r2 : psA 11 [1, 97, 98, 0, 0, 0, 0, 0, 0, 1] = none := by
  have e : pt [1, 97, 98, 0, 0, 0, 0, 0, 0, 1] = some (⟨1, tx [97], 0⟩, []) := by
    simp only [pt]
    rw [if_pos (by decide), rdL, dif_neg (by decide), if_neg (by decide), if_pos (by decide)]; rfl
  simp only [psA]
  rw [if_neg (by simp), e]
  simp only [Option.bind_some]
  rw [if_neg (by rw [enc1 _ (by decide)]; decide)]
theorem h_w2 : tuple_Write.f [⟨4, tx [], 0⟩] = some (tx [], 1) := by
  have e : encL [⟨4, tx [], 0⟩] = [] := rfl
  rw [write_f _ (by rw [e]; decide)]; rfl
theorem h_w3 : tuple_Write.f [⟨2, tx [], 0⟩] = some (tx [2, 128, 0, 0, 0, 0, 0, 0, 0], 0) := by
  have e : encL [⟨2, tx [], 0⟩] = [2, 128, 0, 0, 0, 0, 0, 0, 0] := by
    rw [encL_cons _ _ (vld_num _ _ (.inl rfl)), encR0]; rfl
  rw [write_f _ (by rw [e]; decide)]
  unfold wrF
  rw [e, if_pos (by simp [vld_num 2 0 (.inl rfl)])]; rfl
theorem head_f : ∃ K, ∀ k, K ≤ k → cofferlaw05_head.f k = some true := by
  obtain ⟨K1, h1⟩ := read_f [1, 97, 0, 0, 0, 0, 0, 0, 0, 2] (by decide)
  obtain ⟨K2, h2⟩ := read_f [1, 97, 98, 0, 0, 0, 0, 0, 0, 1] (by decide)
  refine ⟨K1 + K2 + 10, fun k hk => ?_⟩
  have a1 := h1 k (by omega)
  have a2 := h2 k (by omega)
  rw [show ([1, 97, 0, 0, 0, 0, 0, 0, 0, 2] : List UInt8).length + 1 = 11 from rfl, h_r1] at a1
  rw [show ([1, 97, 98, 0, 0, 0, 0, 0, 0, 1] : List UInt8).length + 1 = 11 from rfl, h_r2] at a2
  have a3 := limits_f _ _ h_w3 (by decide)
  have a4 : tuple_Compare.f k [] [⟨1, tx [97, 0], 0⟩] = some (-1) := by
    obtain ⟨k, rfl⟩ : ∃ q, k = q + 1 := ⟨k - 1, by omega⟩
    rfl
  have b0 := h_w1
  have b1 := h_w2
  unfold tx at a1 a2 a3 a4 b0 b1
  unfold cofferlaw05_head.f
  simp only [List.toArray] at a1 a2 a3 a4 b0 b1
  rw [b0, a1, a2, b1, a3]
  simp only [Option.bind_some]
  rw [a4]
  simp [ByteArray.toList_eq, rd_T52, tx, ByteArray.size]
end Go.Proofs.Ytbohpjbcjnapfaa.TupM
