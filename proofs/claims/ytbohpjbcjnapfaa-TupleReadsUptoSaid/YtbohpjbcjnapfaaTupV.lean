/- Chapter 5: the document's Read, in plain words. -/
import Derived.Test.YtbohpjbcjnapfaaTupU
import Derived.Test.YtbohpjbcjnapfaaX38
import Derived.Test.YtbohpjbcjnapfaaX39
import Derived.Test.YtbohpjbcjnapfaaX40
namespace Go.Proofs.Ytbohpjbcjnapfaa.TupM
open Go.RowKit Go.Proofs.Ytbohpjbcjnapfaa.X Go.Proofs.YtbohpjbcjnapfaaW.PrintWords Go.Proofs.YtbohpjbcjnapfaaW.PrintLast
set_option linter.unusedVariables false
set_option linter.unusedSimpArgs false

def cv (p : S52) : S58 := ⟨p.f0, p.f1, p.f2⟩
theorem rvalue_l0 (l : List UInt8) (h : 8 ≤ l.length) : ∀ (d i k : Nat), i + d = 8 → d < k → cofferref05_value.l0 k (tx l) (valF (l.take i)) (i : Int) = some (valF (l.take 8))
  | 0, i, k, e, hk => by
    obtain ⟨k, rfl⟩ : ∃ q, k = q + 1 := ⟨k - 1, by omega⟩
    obtain rfl : i = 8 := by omega
    simp only [cofferref05_value.l0]
    rw [if_neg (by omega)]
  | d + 1, i, k, e, hk => by
    obtain ⟨k, rfl⟩ : ∃ q, k = q + 1 := ⟨k - 1, by omega⟩
    simp only [cofferref05_value.l0]
    rw [if_pos (by omega), if_pos (by omega), if_pos (by rw [tx_size]; omega), valF_step l i (by omega) (by omega), w64_succ i (by omega)]
    exact rvalue_l0 l h d (i + 1) k (by omega) (by omega)
theorem rvalue_f (l : List UInt8) (h : 8 ≤ l.length) (k : Nat) (hk : 9 ≤ k) : cofferref05_value.f k (tx l) = some (valF (l.take 8)) := rvalue_l0 l h 8 0 k (by omega) (by omega)
theorem rread_l0 : ∀ (n : Nat) (l : List UInt8) (x4 : List S58), l.length < n → l.length ≤ 1048576 → l.length + x4.length ≤ 2097152 →
    ∃ K, ∀ k, K ≤ k → cofferref05_Read.l0 k (tx l) x4 = some (match psA n l with | none => ([], 4) | some ps => (x4 ++ ps.map cv, 0))
  | 0, l, x4, hn, _, _ => by omega
  | n + 1, [], x4, hn, _, _ => by
    refine ⟨1, fun k hk => ?_⟩
    obtain ⟨k, rfl⟩ : ∃ q, k = q + 1 := ⟨k - 1, by omega⟩
    simp only [cofferref05_Read.l0, psA]
    rw [if_pos (tx_tl [])]
    simp
  | n + 1, c :: l, x4, hn, hl, hx => by
    simp only [List.length_cons] at hn hl hx
    have hb : bt (tx (c :: l)) 0 = (c.toNat : Int) := bt_tx (c :: l) 0 (by simp)
    have hx1 : (tx (c :: l)).extract 1 (tx (c :: l)).size = tx l := by rw [tx_from]; rfl
    have hs : (tx (c :: l)).size = l.length + 1 := by rw [tx_size, List.length_cons]
    have h9 : (tx (c :: l)).extract (9 : Int).toNat (tx (c :: l)).size = tx (l.drop 8) := by rw [tx_from]; rfl
    have rec_ : ∀ (p : S52) (r : List UInt8), pt (c :: l) = some (p, r) → ∃ K, ∀ k, K ≤ k → cofferref05_Read.l0 k (tx r) (x4 ++ [cv p]) = some (match psA n r with | none => ([], 4) | some ps => (x4 ++ cv p :: ps.map cv, 0)) := by
      intro p r hp
      obtain ⟨_, h1, _⟩ := pt_some hp
      simp only [List.length_cons] at h1
      obtain ⟨K, hK⟩ := rread_l0 n r (x4 ++ [cv p]) (by omega) (by omega) (by rw [List.length_append, List.length_singleton]; omega)
      refine ⟨K, fun k hk => ?_⟩
      rw [hK k hk]
      cases psA n r with
      | none => rfl
      | some ps => simp [List.append_assoc]
    have hps : psA (n + 1) (c :: l) = (pt (c :: l)).bind fun q => if encP q.1 ++ q.2 = c :: l then (psA n q.2).map (q.1 :: ·) else none := by
      simp only [psA]; rw [if_neg (by simp)]
    rw [hps]
    have start : ∀ k, cofferref05_Read.l0 (k + 1) (tx (c :: l)) x4 = if (c.toNat : Int) = 1 then ((cofferref05_text.f k (tx l)).bind fun bt178 => (if bt178.2.2 = true then (if x4.length < 4398046511104 then (if 0 ≤ (wrap64 (bt178.2.1 + 1)) then (if (wrap64 (bt178.2.1 + 1)) ≤ ((tx (c :: l)).size : Int) then (cofferref05_Read.l0 k ((tx (c :: l)).extract ((wrap64 (bt178.2.1 + 1)) : Int).toNat (tx (c :: l)).size) (x4 ++ [(⟨(c.toNat : Int), bt178.1, 0⟩ : S58)])) else (none)) else (none)) else (none)) else (some (([] : List (S58)), 4))))
        else if (c.toNat : Int) = 2 then cofferref05_Read.j1 k (tx (c :: l)) x4 9 (decide (((tx (c :: l)).size : Int) ≥ 9)) (decide (((tx (c :: l)).size : Int) ≥ 9)) (c.toNat : Int) (⟨#[]⟩ : ByteArray) 0
        else cofferref05_Read.j1 k (tx (c :: l)) x4 9 (decide (((tx (c :: l)).size : Int) ≥ 9)) false (c.toNat : Int) (⟨#[]⟩ : ByteArray) 0 := by
      intro k
      simp only [cofferref05_Read.l0]
      rw [hb, w64_byte]; clear hb
      rw [if_neg (by rw [tx_tl]; simp), if_pos (by omega), if_pos (show (1 : Int) ≤ ((tx (c :: l)).size : Int) by omega), hx1]
    clear hb
    by_cases h1 : c.toNat = 1
    · obtain ⟨K1, hK1⟩ := text_f l (by omega)
      have hc1 : c = 1 := byte_of h1 1 rfl
      cases hr : rdL l [] with
      | none =>
        have hp : pt (c :: l) = none := by simp only [pt]; rw [if_pos h1, hr]; rfl
        refine ⟨K1 + 1, fun k hk => ?_⟩
        obtain ⟨k, rfl⟩ : ∃ q, k = q + 1 := ⟨k - 1, by omega⟩
        obtain ⟨t', n', ok, e, hm⟩ := hK1 k (by omega)
        rw [hr] at hm
        simp only at hm
        subst hm
        rw [start k, if_pos (by omega), e, hp]
        simp
      | some q =>
        obtain ⟨t, r⟩ := q
        have hp : pt (c :: l) = some (⟨1, tx t, 0⟩, r) := by simp only [pt]; rw [if_pos h1, hr]; rfl
        have he : encP ⟨1, tx t, 0⟩ = 1 :: grp t := rfl
        obtain ⟨K2, hK2⟩ := rec_ _ _ hp
        obtain ⟨hle, _, c0, hc0⟩ := rdL_some hr
        refine ⟨K1 + K2 + 1, fun k hk => ?_⟩
        obtain ⟨k, rfl⟩ : ∃ q, k = q + 1 := ⟨k - 1, by omega⟩
        obtain ⟨t', n', ok, e, hm⟩ := hK1 k (by omega)
        rw [hr] at hm
        simp only at hm
        obtain ⟨hok, hm⟩ := hm
        rw [start k, if_pos (by omega), e, hp]
        simp only [Option.bind_some]
        rw [he, List.cons_append, hc1]
        by_cases hg : grp t ++ r = l
        · rw [decide_eq_true hg] at hok
          obtain ⟨rfl, rfl⟩ := hm hok
          have ew : wrap64 (((l.length - r.length : Nat) : Int) + 1) = ((l.length - r.length + 1 : Nat) : Int) := by unfold wrap64; omega
          have ed : (c :: l).drop (l.length - r.length + 1) = r := by
            rw [List.drop_succ_cons]; subst hc0; rw [List.length_append, Nat.add_sub_cancel, List.drop_left]
          rw [if_pos hok, ew]; clear ew
          rw [hc1] at hs
          rw [if_pos (by omega), if_pos (by omega), if_pos (by omega), Int.toNat_natCast, ← hc1, tx_from, ed, if_pos (by rw [hg, hc1])]
          have := hK2 k (by omega)
          have e2 : (⟨(c.toNat : Int), tx t, 0⟩ : S58) = cv ⟨1, tx t, 0⟩ := by rw [h1]; rfl
          rw [e2, this]
          cases psA n r with
          | none => rfl
          | some ps => rfl
        · rw [decide_eq_false hg] at hok
          rw [if_neg (by rw [hok]; simp), if_neg (by simpa using hg)]
    · by_cases h8 : l.length < 8
      · have hp : pt (c :: l) = none := by
          simp only [pt]; rw [if_neg h1]
          by_cases h2 : c.toNat = 2
          · rw [if_pos h2, if_pos h8]
          · rw [if_neg h2]
            by_cases h3 : c.toNat = 3
            · rw [if_pos h3, if_pos h8]
            · rw [if_neg h3]
        have hd : decide (((tx (c :: l)).size : Int) ≥ 9) = false := decide_eq_false (by omega)
        refine ⟨4, fun k hk => ?_⟩
        obtain ⟨k, rfl⟩ : ∃ q, k = q + 3 := ⟨k - 3, by omega⟩
        rw [start (k + 2), if_neg (by omega), hd, hp]
        have ej : ∀ x, cofferref05_Read.j1 (k + 2) (tx (c :: l)) x4 9 false false x (⟨#[]⟩ : ByteArray) 0 = some ([], 4) := by
          intro x
          simp only [cofferref05_Read.j1, cofferref05_Read.j2]
          simp
        simp [ej]
      · have hd : decide (((tx (c :: l)).size : Int) ≥ 9) = true := decide_eq_true (by omega)
        have num : ∀ (p : S52), pt (c :: l) = some (p, l.drop 8) → p.f0 ≠ 1 → ∀ (K : Nat) (f : Nat → Option (List S58 × Int)), (∀ k, K ≤ k → f k = cofferref05_Read.l0 k (tx (l.drop 8)) (x4 ++ [cv p])) → ∃ K', ∀ k, K' ≤ k → f k = some (match (pt (c :: l)).bind fun q => if encP q.1 ++ q.2 = c :: l then (psA n q.2).map (q.1 :: ·) else none with | none => ([], 4) | some ps => (x4 ++ ps.map cv, 0)) := by
          intro p hp hf K f hK
          obtain ⟨K2, hK2⟩ := rec_ _ _ hp
          refine ⟨K + K2, fun k hk => ?_⟩
          rw [hK k (by omega), hK2 k (by omega), hp]
          simp only [Option.bind_some]
          rw [if_pos ((pt_some hp).2.2.2.1 hf)]
          cases psA n (l.drop 8) with
          | none => rfl
          | some ps => rfl
        by_cases h2 : c.toNat = 2
        · have hp : pt (c :: l) = some (⟨2, tx [], ofR (valF (l.take 8))⟩, l.drop 8) := by simp only [pt]; rw [if_neg h1, if_pos h2, if_neg h8]
          obtain ⟨K', hK'⟩ := num _ hp (by simp) 12 (fun k => cofferref05_Read.l0 (k + 2) (tx (c :: l)) x4) (by
            intro k hk
            show cofferref05_Read.l0 (k + 1 + 1) _ _ = _
            rw [start (k + 1), if_neg (by omega), if_pos (by omega), hd]
            simp only [cofferref05_Read.j1]
            rw [if_pos trivial, if_pos (by omega), hx1, rvalue_f l (by omega) k (by omega)]
            simp only [Option.bind_some]
            rw [if_pos trivial, if_pos (by omega), if_pos (by omega), if_pos (by omega), h9, h2]
            rfl)
          refine ⟨K' + 2, fun k hk => ?_⟩
          obtain ⟨k, rfl⟩ : ∃ q, k = q + 2 := ⟨k - 2, by omega⟩
          exact hK' k (by omega)
        · by_cases h3 : c.toNat = 3
          · have hp : pt (c :: l) = some (⟨3, tx [], ofF (valF (l.take 8))⟩, l.drop 8) := by simp only [pt]; rw [if_neg h1, if_neg h2, if_pos h3, if_neg h8]
            obtain ⟨K', hK'⟩ := num _ hp (by simp) 12 (fun k => cofferref05_Read.l0 (k + 3) (tx (c :: l)) x4) (by
              intro k hk
              show cofferref05_Read.l0 (k + 2 + 1) _ _ = _
              rw [start (k + 2), if_neg (by omega), if_neg (by omega), hd]
              simp only [cofferref05_Read.j1, cofferref05_Read.j2]
              rw [if_neg (by simp), if_pos (by omega), if_pos trivial, if_pos (by omega), hx1, rvalue_f l (by omega) k (by omega)]
              simp only [Option.bind_some]
              rw [if_pos trivial, if_pos (by omega), if_pos (by omega), if_pos (by omega), h9, h3]
              rfl)
            refine ⟨K' + 3, fun k hk => ?_⟩
            obtain ⟨k, rfl⟩ : ∃ q, k = q + 3 := ⟨k - 3, by omega⟩
            exact hK' k (by omega)
          · have hp : pt (c :: l) = none := by simp only [pt]; rw [if_neg h1, if_neg h2, if_neg h3]
            refine ⟨4, fun k hk => ?_⟩
            obtain ⟨k, rfl⟩ : ∃ q, k = q + 3 := ⟨k - 3, by omega⟩
            rw [start (k + 2), if_neg (by omega), if_neg (by omega), hd, hp]
            simp only [cofferref05_Read.j1, cofferref05_Read.j2]
            rw [if_neg (by simp), if_neg (by omega), if_neg (by simp)]
            rfl
/-- THE DOCUMENT'S Read. -/
theorem rread_f (b : List UInt8) (h : b.length ≤ 1048576) : ∃ K, ∀ k, K ≤ k → cofferref05_Read.f k (tx b) = some (match psA (b.length + 1) b with | none => ([], 4) | some ps => (ps.map cv, 0)) := by
  obtain ⟨K, hK⟩ := rread_l0 (b.length + 1) b [] (by omega) (by omega) (by simp; omega)
  exact ⟨K, fun k hk => by unfold cofferref05_Read.f; rw [hK k hk]; simp⟩
end Go.Proofs.Ytbohpjbcjnapfaa.TupM
