/- Chapter 10: the document's Write and Read are the program's. -/
import Derived.Test.YtffgodpmmipnkaaX0
import Derived.Test.YtffgodpmmipnkaaX29
import Derived.Test.YtffgodpmmipnkaaX31
import Derived.Test.YtffgodpmmipnkaaPg
namespace Go.Proofs.Ytffgodpmmipnkaa.Pg
set_option linter.unusedVariables false
set_option linter.unusedSimpArgs false
open Go.RowKit Go.Proofs.Ytffgodpmmipnkaa Go.Proofs.Ytffgodpmmipnkaa.X Go.Proofs.YtffgodpmmipnkaaW.PrintWords Go.Proofs.YtffgodpmmipnkaaW.PrintLast Go.Proofs.YtffgodpmmipnkaaW.PrintMore

theorem rwrite_l1 (a b : Int) (l : List S37) (hl : l.length ≤ 4398046511104) (ht : tot l ≤ 507) (j : Nat) : ∀ (k i : Nat), i + j = l.length → j < k →
    cofferref10_Write.l1 k (l.length : Int) (hdr a b l.length ++ ents (l.take i)) (i : Int) a b l = some (block a b l, 0) := by
  induction j with
  | zero =>
    intro k i h hk
    obtain ⟨k, rfl⟩ : ∃ q, k = q + 1 := ⟨k - 1, by omega⟩
    have hb := body_len a b l
    have h0 := tot0 l
    have hw : wrap64 (512 - ((body a b l).length : Int)) = ((512 - (body a b l).length : Nat) : Int) := by rw [wrap_mid (by omega) (by omega)]; omega
    simp only [cofferref10_Write.l1]
    rw [if_neg (by omega), List.take_of_length_le (by omega), show hdr a b l.length ++ ents l = body a b l from rfl, hw]
    simp only [Int.toNat_natCast, Option.bind_some]
    rw [if_pos (by omega), if_pos (by omega), if_pos (by rw [son_size, son_size, List.length_replicate]; omega)]
    rfl
  | succ j ih =>
    intro k i h hk
    obtain ⟨k, rfl⟩ : ∃ q, k = q + 1 := ⟨k - 1, by omega⟩
    have hlt : i < l.length := by omega
    have h1 := ents_len (l.take i)
    have h2 := tot_take_le l i
    have h3 := tot_snoc l i hlt
    have h4 := tot_take_le l (i + 1)
    have h5 : sz l[i] = 2 + (l[i].f0.size : Int) + (l[i].f1.size : Int) := rfl
    have h6 := tot0 (l.take i)
    simp only [cofferref10_Write.l1]
    rw [if_pos (by omega), if_pos (by omega), if_pos (by omega), rd_at l i hlt]
    simp only [Option.bind_some]
    rw [if_pos (by simp only [List.length_append, hdr_len, List.length_cons, List.length_nil]; omega), if_pos (by simp only [List.length_append, hdr_len, List.length_cons, List.length_nil]; omega), if_pos (by simp only [List.length_append, hdr_len, List.length_cons, List.length_nil, bytes_len]; omega), wn i (by omega)]
    have := ih k (i + 1) (by omega) (by omega)
    rw [ents_snoc l i hlt] at this
    unfold enc1 at this
    simpa only [List.append_assoc] using this
theorem rwrite_l0 (a b : Int) (l : List S37) (hl : l.length ≤ 4398046511104) (j : Nat) : ∀ (k i : Nat), i + j = l.length → j + l.length + 2 < k → (l.take i).any long = false →
    cofferref10_Write.l0 k (i : Int) a b l = some (if l.any long = true ∨ wrap64 (tot l) > 507 then (⟨#[]⟩, 3) else if Srt l then (block a b l, 0) else (⟨#[]⟩, 4)) := by
  induction j with
  | zero =>
    intro k i h hk hn
    obtain ⟨k, rfl⟩ : ∃ q, k = q + 1 := ⟨k - 1, by omega⟩
    rw [List.take_of_length_le (by omega)] at hn
    simp only [cofferref10_Write.l0]
    rw [if_neg (by omega), rsize_eq l hl k (by omega), Option.bind_some]
    by_cases hc : wrap64 (tot l) > 507
    · rw [if_pos hc, if_pos (.inr hc)]
    · have hc' : ¬ (l.any long = true ∨ wrap64 (tot l) > 507) := by rw [hn]; rintro (h | h); cases h; exact hc h
      rw [if_neg hc, if_neg hc']
      obtain ⟨hs, ht⟩ := tot_fits hl hc'
      obtain ⟨t, h1, h2⟩ := rsorted_eq l hl k (by omega)
      rw [h1, Option.bind_some]
      by_cases hS : Srt l
      · rw [if_pos (h2.2 hS), if_pos hS]
        have := rwrite_l1 a b l hl ht l.length k 0 (by omega) (by omega)
        simpa [ents, hdr] using this
      · rw [if_neg (fun g => hS (h2.1 g)), if_neg hS]
  | succ j ih =>
    intro k i h hk hn
    obtain ⟨k, rfl⟩ : ∃ q, k = q + 1 := ⟨k - 1, by omega⟩
    have hlt : i < l.length := by omega
    have hmem : long l[i] = true → l.any long = true := fun g => List.any_eq_true.2 ⟨_, List.getElem_mem hlt, g⟩
    simp only [cofferref10_Write.l0]
    rw [if_pos (by omega), if_pos (by omega), rd_at l i hlt, wn i (by omega)]
    by_cases h1 : (l[i].f0.size : Int) > 100
    · rw [if_pos h1, if_pos (.inl (hmem (by simp [long, h1])))]
    · rw [if_neg h1]
      by_cases h2 : (l[i].f1.size : Int) > 150
      · rw [if_pos h2, if_pos (.inl (hmem (by simp [long, h2])))]
      · rw [if_neg h2]
        refine ih k (i + 1) (by omega) (by omega) ?_
        rw [List.take_succ_eq_append_getElem hlt, List.any_append, hn]
        simp only [Bool.false_or, List.any_cons, List.any_nil, Bool.or_false]
        unfold long; rw [decide_eq_false h1, decide_eq_false h2]; rfl
theorem rwrite_j0 (a b : Int) (l : List S37) (hl : l.length ≤ 4398046511104) (x : Bool) (hx : x = bad a b) (k : Nat) (hk : 2 * l.length + 3 < k) : cofferref10_Write.j0 k x a b l = some (wrS a b l) := by
  obtain ⟨k, rfl⟩ : ∃ q, k = q + 1 := ⟨k - 1, by omega⟩
  simp only [cofferref10_Write.j0]
  unfold wrS
  subst hx
  by_cases hb : bad a b = true
  · rw [if_pos hb, if_pos hb]
  · rw [if_neg hb, if_neg hb]
    exact rwrite_l0 a b l hl l.length k 0 (by omega) (by omega) (by simp)
theorem rwrite_eq (a b : Int) (l : List S37) (hl : l.length ≤ 4398046511104) (k : Nat) (hk : 2 * l.length + 3 < k) : cofferref10_Write.f k a b l = some (wrS a b l) := by
  unfold cofferref10_Write.f
  by_cases h1 : a < 0
  · rw [if_pos h1]; exact rwrite_j0 a b l hl true (by simp [bad, h1]) k hk
  · rw [if_neg h1]
    by_cases h2 : a > 255
    · rw [if_pos h2]; exact rwrite_j0 a b l hl true (by simp [bad, h2]) k hk
    · rw [if_neg h2]
      by_cases h3 : b < 0
      · rw [if_pos h3]; exact rwrite_j0 a b l hl true (by simp [bad, h3]) k hk
      · rw [if_neg h3]; exact rwrite_j0 a b l hl _ (by unfold bad; rw [decide_eq_false h1, decide_eq_false h2, decide_eq_false h3]; rfl) k hk
theorem rread_l0 (x : ByteArray) (hx : x.size = 512) (n a b : Int) (hn : n ≤ 65536) (c : Nat) : ∀ (k i at_ : Nat) (acc : List S37), (i : Int) + c = n → at_ ≤ 512 → acc.length ≤ 2 * at_ → 10 * (512 - at_) + 2 * acc.length + 10 < k →
    cofferref10_Read.l0 k x n (at_ : Int) (i : Int) a b acc = some (told x a b (prs c (x.extract at_ x.size) acc)) := by
  induction c with
  | zero =>
    intro k i at_ acc h ha hb hk
    obtain ⟨k, rfl⟩ : ∃ q, k = q + 1 := ⟨k - 1, by omega⟩
    simp only [cofferref10_Read.l0, prs]
    rw [if_neg (by omega), rwrite_eq a b acc (by omega) k (by omega), Option.bind_some]
    unfold told
    simp only [toList_iff]
    by_cases h1 : (wrS a b acc).2 = 0
    · rw [if_pos h1, if_pos h1]
      by_cases h2 : (wrS a b acc).1 = x
      · rw [if_pos h2, if_pos h2]
      · rw [if_neg h2, if_neg h2]; rfl
    · rw [if_neg h1, if_neg h1]; rfl
  | succ c ih =>
    intro k i at_ acc h ha hb hk
    obtain ⟨k, rfl⟩ : ∃ q, k = q + 1 := ⟨k - 1, by omega⟩
    obtain ⟨d, hd⟩ : ∃ d, at_ + d = 512 := ⟨512 - at_, by omega⟩
    have hk' : 10 * d + 2 * acc.length + 11 < k + 2 := by omega
    clear hk ha
    have hsz : (x.extract at_ x.size).size = d := by rw [ByteArray.size_extract]; omega
    simp only [cofferref10_Read.l0, prs, hsz]
    rw [if_pos (by omega), show wrap64 ((at_ : Int) + 2) = (at_ : Int) + 2 from wrap_mid (by omega) (by omega)]
    by_cases c1 : d < 2
    · rw [if_pos (by omega), if_pos (.inl c1)]; rfl
    · have b0 : bt (x.extract at_ x.size) 0 = bt x (at_ : Int) := by
        have := bt_extract x at_ x.size 0 (by omega) (by omega)
        simpa using this
      have b1 : bt (x.extract at_ x.size) 1 = bt x ((at_ + 1 : Nat) : Int) := by
        have := bt_extract x at_ x.size 1 (by omega) (by omega)
        simpa using this
      have h0 := bt_lt x (at_ : Int)
      have h1 := bt_lt x ((at_ + 1 : Nat) : Int)
      rw [b0, b1, if_neg (by omega), if_pos (by omega), if_pos (by omega), show wrap64 ((at_ : Int) + 1) = ((at_ + 1 : Nat) : Int) from wn at_ (by omega), if_pos (by omega), if_pos (by omega), wbt, wbt,
        show wrap64 ((at_ : Int) + 2 + bt x (at_ : Int)) = (at_ : Int) + 2 + bt x (at_ : Int) from wrap_mid (by omega) (by omega),
        show wrap64 ((at_ : Int) + 2 + bt x (at_ : Int) + bt x ((at_ + 1 : Nat) : Int)) = (at_ : Int) + 2 + bt x (at_ : Int) + bt x ((at_ + 1 : Nat) : Int) from wrap_mid (by omega) (by omega)]
      clear b0 b1 hsz
      generalize bt x (at_ : Int) = K at *
      generalize bt x ((at_ + 1 : Nat) : Int) = V at *
      obtain ⟨K, rfl⟩ := Int.eq_ofNat_of_zero_le h0.1
      obtain ⟨V, rfl⟩ := Int.eq_ofNat_of_zero_le h1.1
      by_cases c2 : d < 2 + K + V
      · rw [if_pos (by omega), if_pos (.inr (by omega))]; rfl
      · rw [if_neg (by omega), if_pos (by omega), if_pos (by omega), if_pos (by omega), if_pos (by omega), if_pos (by omega), if_pos (by omega), if_pos (by omega), if_neg (by omega), wn i (by omega)]
        have t1 : ((at_ : Int) + 2).toNat = at_ + 2 := by omega
        have t2 : ((at_ : Int) + 2 + (K : Int)).toNat = at_ + 2 + K := by omega
        have t3 : ((at_ : Int) + 2 + (K : Int) + (V : Int)).toNat = at_ + 2 + K + V := by omega
        have t4 : (2 + (K : Int)).toNat = 2 + K := by omega
        have t5 : (2 + (K : Int) + (V : Int)).toNat = 2 + K + V := by omega
        rw [t1, t2, t3, t4, t5, ByteArray.extract_extract, ByteArray.extract_extract, ByteArray.extract_extract, show min (at_ + (2 + K)) x.size = at_ + 2 + K by omega, show min (at_ + (2 + K + V)) x.size = at_ + 2 + K + V by omega, show min (at_ + d) x.size = x.size by omega, show at_ + (2 + K + V) = at_ + 2 + K + V by omega, show at_ + (2 + K) = at_ + 2 + K by omega]
        have := ih k (i + 1) (at_ + 2 + K + V) (acc ++ [⟨x.extract (at_ + 2) (at_ + 2 + K), x.extract (at_ + 2 + K) (at_ + 2 + K + V)⟩]) (by omega) (by omega) (by rw [List.length_append, List.length_singleton]; omega) (by rw [List.length_append, List.length_singleton]; omega)
        rw [← this, show (((at_ + 2 + K + V : Nat)) : Int) = (at_ : Int) + 2 + (K : Int) + (V : Int) by omega]
theorem rread_eq (x : ByteArray) (k : Nat) (hk : 10000 < k) : cofferref10_Read.f k x = some (rdS x) := by
  unfold cofferref10_Read.f rdS
  by_cases h : x.size = 512
  · have h1 := bt_lt x 1
    have h2 := bt_lt x 2
    have h3 := bt_lt x 3
    have h4 := bt_lt x 4
    rw [if_pos (by omega), if_pos (by omega), if_pos (by omega), if_pos (by omega), if_pos (by omega), if_pos (by omega), if_pos h]
    simp only [wbt]
    rw [or_add _ _ h3.1 (by omega) h4.1 h4.2, or_add _ _ h1.1 (by omega) h2.1 h2.2]
    have := rread_l0 x h (bt x 3 * 256 + bt x 4) (bt x 0) (bt x 1 * 256 + bt x 2) (by omega) (bt x 3 * 256 + bt x 4).toNat k 0 5 [] (by omega) (by omega) (by simp) (by simp; omega)
    exact this
  · rw [if_neg (by omega), if_neg h]; rfl

end Go.Proofs.Ytffgodpmmipnkaa.Pg
