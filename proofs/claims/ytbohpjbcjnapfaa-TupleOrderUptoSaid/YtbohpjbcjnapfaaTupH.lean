/- Chapter 5: the document's groups; the same lists; head's examples. -/
import Derived.Test.YtbohpjbcjnapfaaTupS
import Derived.Test.YtbohpjbcjnapfaaX37
import Derived.Test.YtbohpjbcjnapfaaX20
import Derived.Test.YtbohpjbcjnapfaaX21
import Derived.Test.YtbohpjbcjnapfaaX31
import Derived.Test.YtbohpjbcjnapfaaX36
import Derived.Test.YtbohpjbcjnapfaaX41
namespace Go.Proofs.Ytbohpjbcjnapfaa.TupM
open Go.RowKit Go.Proofs.Ytbohpjbcjnapfaa.X Go.Proofs.YtbohpjbcjnapfaaW.PrintWords Go.Proofs.YtbohpjbcjnapfaaW.PrintLast
set_option linter.unusedVariables false
set_option linter.unusedSimpArgs false

theorem tx_append (a b : List UInt8) : tx a ++ tx b = tx (a ++ b) := by
  have h : (tx a ++ tx b).data.toList = a ++ b := by
    rw [ByteArray.data_append, Array.toList_append]; rfl
  rw [← h, tx_toList]
theorem one_num (n : Nat) : strOfNums [((n : Int)) % 256] = tx [UInt8.ofNat n] := by
  have : strOfNums [((n : Int)) % 256] = tx [UInt8.ofNat (((n : Int)) % 256).toNat] := rfl
  rw [this]
  congr 2
  apply UInt8.toNat_inj.1
  simp
  omega
theorem groups_l1 (y : List UInt8) (n : Nat) (hy : y.length ≤ 1099511627776) : ∀ (d : Nat) (x : List UInt8) (k : Nat), x.length + d = 8 → d < k →
    cofferref05_groups.l1 k (tx x) (tx y) (n : Int) = some (tx (y ++ (x ++ List.replicate d 0) ++ [UInt8.ofNat n]))
  | 0, x, k, e, hk => by
    obtain ⟨k, rfl⟩ : ∃ q, k = q + 1 := ⟨k - 1, by omega⟩
    simp only [cofferref05_groups.l1]
    rw [if_neg (by rw [tx_size]; omega), if_pos (by rw [tx_size, tx_size]; omega)]
    simp only [Option.bind_some]
    rw [one_num, tx_append, if_pos (by rw [tx_size, tx_size, List.length_append, List.length_singleton]; omega), tx_append]
    simp
  | d + 1, x, k, e, hk => by
    obtain ⟨k, rfl⟩ : ∃ q, k = q + 1 := ⟨k - 1, by omega⟩
    simp only [cofferref05_groups.l1]
    rw [if_pos (by rw [tx_size]; omega), if_pos (by rw [tx_size]; omega)]
    have : tx x ++ (⟨#[0]⟩ : ByteArray) = tx (x ++ [0]) := tx_append x [0]
    rw [this, groups_l1 y n hy d (x ++ [0]) k (by rw [List.length_append, List.length_singleton]; omega) (by omega)]
    simp [List.replicate_succ]
theorem groups_l0 : ∀ (m : Nat) (x y : List UInt8), x.length < m → x.length + x.length + y.length ≤ 1099511627776 → ∃ K, ∀ k, K ≤ k → cofferref05_groups.l0 k (tx x) (tx y) = some (tx (y ++ grp x))
  | 0, x, y, h, _ => by omega
  | m + 1, x, y, hm, hl => by
    by_cases h8 : 8 < x.length
    · obtain ⟨K, hK⟩ := groups_l0 m (x.drop 8) (y ++ x.take 8 ++ [9]) (by rw [List.length_drop]; omega) (by simp only [List.length_append, List.length_drop, List.length_take, List.length_singleton]; omega)
      refine ⟨K + 1, fun k hk => ?_⟩
      obtain ⟨k, rfl⟩ : ∃ q, k = q + 1 := ⟨k - 1, by omega⟩
      simp only [cofferref05_groups.l0]
      have e9 : tx (y ++ x.take 8) ++ (⟨#[9]⟩ : ByteArray) = tx (y ++ x.take 8 ++ [9]) := tx_append _ [9]
      rw [tx_upto, tx_from, tx_append, e9, hK k (by omega), tx_size, tx_size, tx_size, tx_size, if_pos (by omega), if_pos (by omega), if_pos (by omega), if_pos (by rw [List.length_take]; omega), if_pos (by rw [List.length_append, List.length_take]; omega), grp_long h8]
      simp
    · refine ⟨12, fun k hk => ?_⟩
      obtain ⟨k, rfl⟩ : ∃ q, k = q + 1 := ⟨k - 1, by omega⟩
      simp only [cofferref05_groups.l0]
      rw [tx_size, if_neg (by omega), groups_l1 y x.length (by omega) (8 - x.length) x k (by omega) (by omega), grp_short (by omega)]
      simp
theorem groups_f (x : List UInt8) (h : x.length ≤ 4194304) : ∃ K, ∀ k, K ≤ k → cofferref05_groups.f k (tx x) = some (tx (grp x)) := by
  obtain ⟨K, hK⟩ := groups_l0 (x.length + 1) x [] (by omega) (by simp; omega)
  exact ⟨K, fun k hk => hK k hk⟩
def cv (p : S52) : S58 := ⟨p.f0, p.f1, p.f2⟩
theorem rd52 (l : List S52) (i : Nat) (h : i < l.length) : rd_T52 l (i : Int) = l[i] := by
  unfold rd_T52; rw [Int.toNat_natCast, List.getD_eq_getElem?_getD, List.getElem?_eq_getElem h]; rfl
theorem rd58 (l : List S58) (i : Nat) (h : i < l.length) : rd_T58 l (i : Int) = l[i] := by
  unfold rd_T58; rw [Int.toNat_natCast, List.getD_eq_getElem?_getD, List.getElem?_eq_getElem h]; rfl
theorem same_l0 (l : List S52) (hl : l.length ≤ 2097152) : ∀ (d i k : Nat), i + d = l.length → d < k → cofferlaw05_same.l0 k l (l.map cv) (i : Int) = some true
  | 0, i, k, e, hk => by
    obtain ⟨k, rfl⟩ : ∃ q, k = q + 1 := ⟨k - 1, by omega⟩
    simp only [cofferlaw05_same.l0]
    rw [if_neg (by rw [List.length_map]; omega)]
  | d + 1, i, k, e, hk => by
    obtain ⟨k, rfl⟩ : ∃ q, k = q + 1 := ⟨k - 1, by omega⟩
    have hi : i < l.length := by omega
    have e8 : rd_T58 (l.map cv) (i : Int) = cv l[i] := by rw [rd58 _ i (by rw [List.length_map]; exact hi), List.getElem_map]
    simp only [cofferlaw05_same.l0]
    rw [if_pos (by rw [List.length_map]; omega), if_pos (by omega), if_pos (by omega), e8, rd52 l i hi, if_pos (show l[i].f0 = (cv l[i]).f0 from rfl), if_pos (show l[i].f1.toList = (cv l[i]).f1.toList from rfl), if_pos (show l[i].f2 = (cv l[i]).f2 from rfl), w64_succ i (by omega)]
    exact same_l0 l hl d (i + 1) k (by omega) (by omega)
theorem same_f (l : List S52) (hl : l.length ≤ 2097152) (k : Nat) (hk : l.length < k) : cofferlaw05_same.f k l (l.map cv) = some true := by
  unfold cofferlaw05_same.f
  rw [if_pos (by rw [List.length_map])]
  exact same_l0 l hl l.length 0 k (by omega) hk
theorem limits_f (l : List S52) (b : List UInt8) (h : tuple_Write.f l = some (tx b, 0)) (hb : b.length ≤ 1000) : tuple_Limits.f l = some (tx b, tx (b ++ [255]), 0) := by
  unfold tuple_Limits.f
  rw [h]
  simp only [Option.bind_some]
  rw [if_pos trivial, if_pos (by rw [tx_size]; omega)]
  have : tx b ++ (⟨#[255]⟩ : ByteArray) = tx (b ++ [255]) := tx_append b [255]
  rw [this]
theorem psA_enc : ∀ (l : List S52) (n : Nat), (∀ p ∈ l, okP p) → l.length < n → psA n (encL l) = some l
  | [], n, _, hn => by
    obtain ⟨n, rfl⟩ : ∃ q, n = q + 1 := ⟨n - 1, by simp at hn; omega⟩
    simp only [psA]
    rw [if_pos (show encL [] = [] from rfl)]
  | p :: l, n, hv, hn => by
    obtain ⟨n, rfl⟩ : ∃ q, n = q + 1 := ⟨n - 1, by simp at hn; omega⟩
    have ok := hv p (by simp)
    have hp := pt_enc p ok (encL l)
    rw [encL_cons p l ok.1]
    have hne : ¬ encP p ++ encL l = [] := by
      intro e; rw [e] at hp; cases hp
    simp only [psA]
    rw [if_neg hne, hp]
    simp only [Option.bind_some]
    rw [if_pos trivial, psA_enc l n (fun q hq => hv q (by simp [hq])) (by simpa using hn)]
    rfl
theorem enc1 (t : List UInt8) (ht : t.length ≤ 8) : encP ⟨1, tx t, 0⟩ = 1 :: (t ++ List.replicate (8 - t.length) 0 ++ [UInt8.ofNat t.length]) := by
  show (1 : UInt8) :: grp t = _
  rw [grp_short ht]
theorem encF1 : encP ⟨3, tx [], 1⟩ = [3, 127, 255, 255, 255, 255, 255, 255, 254] := by kernel_rfl
theorem encR0 : encP ⟨2, tx [], 0⟩ = [2, 128, 0, 0, 0, 0, 0, 0, 0] := by kernel_rfl
theorem h_w1 : tuple_Write.f [⟨1, tx [97], 0⟩, ⟨3, tx [], 1⟩] = some (tx [1, 97, 0, 0, 0, 0, 0, 0, 0, 1, 3, 127, 255, 255, 255, 255, 255, 255, 254], 0) := by
  have e : encL [⟨1, tx [97], 0⟩, ⟨3, tx [], 1⟩] = [1, 97, 0, 0, 0, 0, 0, 0, 0, 1, 3, 127, 255, 255, 255, 255, 255, 255, 254] := by
    rw [encL_cons _ _ rfl, encL_cons _ _ (vld_num _ _ (.inr rfl)), enc1 _ (by decide), encF1]; rfl
  rw [write_f _ (by rw [e]; decide)]
  unfold wrF
  rw [e, if_pos (by simp [vld_num 3 1 (.inr rfl)]; rfl)]; rfl
theorem h_r1 : psA 11 [1, 97, 0, 0, 0, 0, 0, 0, 0, 2] = some [⟨1, tx [97, 0], 0⟩] := by
  have e : encL [⟨1, tx [97, 0], 0⟩] = [1, 97, 0, 0, 0, 0, 0, 0, 0, 2] := by
    rw [encL_cons _ _ rfl, enc1 _ (by decide)]; rfl
  rw [← e]
  exact psA_enc _ 11 (by intro p hp; rw [List.mem_singleton.1 hp]; exact ⟨rfl, by unfold i64; simp⟩) (by decide)
theorem h_r2 : psA 11 [1, 97, 98, 0, 0, 0, 0, 0, 0, 1] = none := by
  have e : pt [1, 97, 98, 0, 0, 0, 0, 0, 0, 1] = some (⟨1, tx [97], 0⟩, []) := by
    simp only [pt]
    rw [if_pos (by decide), rdL, dif_neg (by decide), if_neg (by decide), if_pos (by decide)]; rfl
  simp only [psA]
  rw [if_neg (by simp), e]
  simp only [Option.bind_some]
  rw [if_neg (by rw [enc1 _ (by decide)]; decide)]
theorem h_w2 : tuple_Write.f [⟨4, tx [], 0⟩] = some (tx [], 1) := by
  have e : encL [⟨4, tx [], 0⟩] = [] := rfl
  rw [write_f _ (by rw [e]; decide)]; rfl
theorem h_w3 : tuple_Write.f [⟨2, tx [], 0⟩] = some (tx [2, 128, 0, 0, 0, 0, 0, 0, 0], 0) := by
  have e : encL [⟨2, tx [], 0⟩] = [2, 128, 0, 0, 0, 0, 0, 0, 0] := by
    rw [encL_cons _ _ (vld_num _ _ (.inl rfl)), encR0]; rfl
  rw [write_f _ (by rw [e]; decide)]
  unfold wrF
  rw [e, if_pos (by simp [vld_num 2 0 (.inl rfl)])]; rfl
theorem head_f : ∃ K, ∀ k, K ≤ k → cofferlaw05_head.f k = some true := by
  obtain ⟨K1, h1⟩ := read_f [1, 97, 0, 0, 0, 0, 0, 0, 0, 2] (by decide)
  obtain ⟨K2, h2⟩ := read_f [1, 97, 98, 0, 0, 0, 0, 0, 0, 1] (by decide)
  refine ⟨K1 + K2 + 10, fun k hk => ?_⟩
  have a1 := h1 k (by omega)
  have a2 := h2 k (by omega)
  rw [show ([1, 97, 0, 0, 0, 0, 0, 0, 0, 2] : List UInt8).length + 1 = 11 from rfl, h_r1] at a1
  rw [show ([1, 97, 98, 0, 0, 0, 0, 0, 0, 1] : List UInt8).length + 1 = 11 from rfl, h_r2] at a2
  have a3 := limits_f _ _ h_w3 (by decide)
  have a4 : tuple_Compare.f k [] [⟨1, tx [97, 0], 0⟩] = some (-1) := by
    obtain ⟨k, rfl⟩ : ∃ q, k = q + 1 := ⟨k - 1, by omega⟩
    rfl
  have b0 := h_w1
  have b1 := h_w2
  unfold tx at a1 a2 a3 a4 b0 b1
  unfold cofferlaw05_head.f
  simp only [List.toArray] at a1 a2 a3 a4 b0 b1
  rw [b0, a1, a2, b1, a3]
  simp only [Option.bind_some]
  rw [a4]
  simp [ByteArray.toList_eq, rd_T52, tx, ByteArray.size]
end Go.Proofs.Ytbohpjbcjnapfaa.TupM
