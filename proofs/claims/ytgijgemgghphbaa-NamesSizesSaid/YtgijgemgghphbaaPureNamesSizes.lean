/- NamesSizes: the size is 32 and the lengths of all texts, counted as an int counts; a right version's lies in 33 .. 1728. No condition beside the row's own. -/
import Derived.Test.YtgijgemgghphbaaStNamesSizes
import Derived.Test.YtgijgemgghphbaaX8
import Derived.Test.YtgijgemgghphbaaX7
import Derived.Test.YtgijgemgghphbaaNamesLink
namespace Go.Proofs.Ytgijgemgghphbaa.Pure
set_option linter.unusedVariables false
set_option linter.unusedSimpArgs false
open Go.RowKit Go.Proofs.Ytgijgemgghphbaa.X Go.Proofs.YtgijgemgghphbaaW.PrintWords Go.Proofs.YtgijgemgghphbaaW.PrintLast
open Go.Proofs.Ytgijgemgghphbaa Go.Proofs.Ytgijgemgghphbaa.Link

def tot : List S31 → Int
  | [] => 0
  | p :: l => ((p.f0.size : Int) + (p.f1.size : Int)) + tot l
theorem tot_append (l m : List S31) : tot (l ++ m) = tot l + tot m := by
  induction l with
  | nil => simp [tot]
  | cons p l ih => simp only [List.cons_append, tot, ih]; omega
theorem size_l0 (xs : List S31) (hx : xs.length ≤ 140737488351232) (d : Nat) : ∀ (k i : Nat) (n : Int), i + d = xs.length → d < k → names_Size.l0 k (wrap64 n) xs (xs.length : Int) (i : Int) = some (wrap64 (n + tot (xs.drop i))) := by
  induction d with
  | zero =>
    intro k i n h hk
    obtain ⟨k, rfl⟩ : ∃ q, k = q + 1 := ⟨k - 1, by omega⟩
    simp only [names_Size.l0]
    rw [if_neg (by omega), List.drop_of_length_le (by omega)]
    simp [tot]
  | succ d ih =>
    intro k i n h hk
    obtain ⟨k, rfl⟩ : ∃ q, k = q + 1 := ⟨k - 1, by omega⟩
    have hlt : i < xs.length := by omega
    have hw : wrap64 ((i : Int) + 1) = ((i + 1 : Nat) : Int) := by unfold wrap64; omega
    simp only [names_Size.l0]
    rw [if_pos (by omega), if_pos (by omega), if_pos (by omega), rd_at xs i hlt, hw, ih k (i + 1) _ (by omega) (by omega), List.drop_eq_getElem_cons hlt]
    simp only [tot]
    generalize tot (xs.drop (i + 1)) = T
    generalize (xs[i].f0.size : Int) = A
    generalize (xs[i].f1.size : Int) = B
    congr 1
    unfold wrap64; omega
def sizeOf_ (a d : ByteArray) (l : List S31) : Int := 32 + (a.size : Int) + (d.size : Int) + tot l
theorem size_eq (k : Nat) (a : ByteArray) (x1 : Int) (x2 : Bool) (d : ByteArray) (l : List S31) (hl : l.length ≤ 140737488351232) (hk : l.length < k) : names_Size.f k a x1 x2 d l = some (wrap64 (sizeOf_ a d l)) := by
  unfold names_Size.f
  have h := size_l0 l hl l.length k 0 ((wrap64 (32 + (a.size : Int))) + (d.size : Int)) (by omega) hk
  rw [show ((0 : Nat) : Int) = 0 from rfl] at h
  rw [h, List.drop_zero]
  unfold sizeOf_
  generalize tot l = T
  generalize (a.size : Int) = A
  generalize (d.size : Int) = B
  congr 1
  unfold wrap64; omega
theorem tot_bound (l : List S31) (h : ∀ p ∈ l, pairB p = true) : 0 ≤ tot l ∧ tot l ≤ 80 * l.length := by
  induction l with
  | nil => simp [tot]
  | cons p l ih =>
    have hp := h p (List.mem_cons_self ..)
    have hi := ih (fun q hq => h q (List.mem_cons_of_mem _ hq))
    unfold pairB smallB at hp
    simp only [Bool.and_eq_true, decide_eq_true_eq] at hp
    simp only [tot, List.length_cons]
    omega
theorem tot_set (p : S31) (l : List S31) (q : S31) : tot ((p :: l).set 0 q) = tot (p :: l) - ((p.f0.size : Int) + (p.f1.size : Int)) + ((q.f0.size : Int) + (q.f1.size : Int)) := by
  simp only [List.set_cons_zero, tot]; omega
theorem version_size (k : Nat) (a : ByteArray) (x1 : Int) (x2 : Bool) (d : ByteArray) (l : List S31) (hl : l.length ≤ 140737488351232) (hk : l.length < k) : ∃ t, names_Version.f (k + 1) a x1 x2 d l = some t ∧ (t = 0 → 33 ≤ sizeOf_ a d l ∧ sizeOf_ a d l ≤ 1728) := by
  have hm := meta_eq l hl k hk
  unfold names_Version.f names_Key.f names_Data.f
  by_cases h1 : a.toList = ([] : List UInt8)
  · rw [if_pos h1]; exact ⟨61, by simp, by simp⟩
  · rw [if_neg h1]
    have ha : a.size ≠ 0 := fun e => h1 ((nil_iff a).2 e)
    by_cases h2 : (a.size : Int) > 32
    · rw [if_pos h2]; exact ⟨61, by simp, by simp⟩
    · rw [if_neg h2]
      simp only [Option.bind_some, if_true]
      by_cases h3 : (d.size : Int) > 1024
      · rw [if_pos h3]; simp [names_Version.j0]
      · rw [if_neg h3]
        simp only [Option.bind_some, if_true]
        by_cases hmo : metaOk l = true
        · rw [if_pos hmo] at hm
          have hb := (metaOk_iff l).1 hmo
          have hbt := tot_bound l hb.2.1
          have hz : 33 ≤ sizeOf_ a d l ∧ sizeOf_ a d l ≤ 1728 := by unfold sizeOf_; have := hb.1; omega
          cases x2 <;> by_cases h4 : (d.toList != ([] : List UInt8)) = true <;> simp [names_Version.j0, hm, h4, hz] <;> (repeat' split) <;> simp [hz]
        · rw [if_neg hmo] at hm
          cases x2 <;> by_cases h4 : (d.toList != ([] : List UInt8)) = true <;> simp [names_Version.j0, hm, h4] <;> (repeat' split) <;> simp
theorem NamesSizes : cofferlaw12_NamesSizes.Pure := by
  rintro ⟨a, x1, x2, d, l⟩ n v ⟨g1, _, _, g2, g3, g4⟩ gn gv
  simp only at g1 g2 g3 g4
  have hl : l.length ≤ 140737488351232 := by omega
  refine ⟨l.length + 20, ?_⟩
  obtain ⟨t, ht, hsz⟩ := version_size (l.length + 19) a x1 x2 d l hl (by omega)
  show cofferlaw12_NamesSizes.f _ a x1 x2 d l n v = _
  unfold cofferlaw12_NamesSizes.f
  rw [first_more _ (by omega)]
  simp only [Option.bind_some, if_true, List.nil_append, List.length_nil, List.length_append, List.length_cons]
  have hs (y : ByteArray) (y' : ByteArray) := size_eq (l.length + 20) y x1 x2 y' l hl (by omega)
  have hc := size_eq (l.length + 20) a x1 x2 d (l ++ [(⟨n, v⟩ : S31)]) (by simp <;> omega) (by simp <;> omega)
  have htc : tot (l ++ [(⟨n, v⟩ : S31)]) = tot l + ((n.size : Int) + (v.size : Int)) := by rw [tot_append]; simp [tot]
  obtain ⟨p, m, hpm⟩ : ∃ p m, l ++ [(⟨n, v⟩ : S31)] = p :: m := by
    cases l with
    | nil => exact ⟨_, _, rfl⟩
    | cons p m => exact ⟨p, m ++ [⟨n, v⟩], rfl⟩
  have hp1 : p.f1.size ≤ 140737488351232 := by
    have hm : p ∈ l ++ [(⟨n, v⟩ : S31)] := by rw [hpm]; exact List.mem_cons_self ..
    rcases List.mem_append.1 hm with h | h
    · exact (g4 p h).2
    · obtain rfl := List.mem_singleton.1 h
      exact gv
  have hr : rd_T31 (l ++ [(⟨n, v⟩ : S31)]) 0 = p := by rw [hpm]; rfl
  have hq := size_eq (l.length + 20) a x1 x2 d ((l ++ [(⟨n, v⟩ : S31)]).set (0 : Int).toNat (⟨p.f0, p.f1 ++ (⟨#[118]⟩ : ByteArray)⟩ : S31)) (by simp <;> omega) (by simp <;> omega)
  have htq : tot ((l ++ [(⟨n, v⟩ : S31)]).set (0 : Int).toNat (⟨p.f0, p.f1 ++ (⟨#[118]⟩ : ByteArray)⟩ : S31)) = tot l + ((n.size : Int) + (v.size : Int)) + 1 := by
    rw [← htc, hpm]
    show tot ((p :: m).set 0 _) = _
    rw [tot_set]
    simp only [ByteArray.size_append]
    have : (⟨#[118]⟩ : ByteArray).size = 1 := rfl
    omega
  have hk1 : (a ++ (⟨#[107]⟩ : ByteArray)).size = a.size + 1 := by simp only [ByteArray.size_append]; rfl
  have hd1 : ((⟨#[100]⟩ : ByteArray) ++ d).size = 1 + d.size := by simp only [ByteArray.size_append]; rfl
  rw [hr, hs a d, hs (a ++ (⟨#[107]⟩ : ByteArray)) d, hs a ((⟨#[100]⟩ : ByteArray) ++ d), hc, hq, show l.length + 20 = l.length + 19 + 1 from rfl, ht]
  simp only [Option.bind_some]
  have hT : sizeOf_ a d l = 32 + (a.size : Int) + (d.size : Int) + tot l := rfl
  have e1 : wrap64 (sizeOf_ (a ++ (⟨#[107]⟩ : ByteArray)) d l) = wrap64 (wrap64 (sizeOf_ a d l) + 1) := by
    unfold sizeOf_; rw [hk1]; generalize tot l = T; unfold wrap64; omega
  have e2 : wrap64 (sizeOf_ a ((⟨#[100]⟩ : ByteArray) ++ d) l) = wrap64 (wrap64 (sizeOf_ a d l) + 1) := by
    unfold sizeOf_; rw [hd1]; generalize tot l = T; unfold wrap64; omega
  have e3 : wrap64 (sizeOf_ a d (l ++ [(⟨n, v⟩ : S31)])) = wrap64 (wrap64 (wrap64 (sizeOf_ a d l) + (n.size : Int)) + (v.size : Int)) := by
    unfold sizeOf_; rw [htc]; generalize tot l = T; unfold wrap64; omega
  have e4 : wrap64 (sizeOf_ a d ((l ++ [(⟨n, v⟩ : S31)]).set (0 : Int).toNat (⟨p.f0, p.f1 ++ (⟨#[118]⟩ : ByteArray)⟩ : S31))) = wrap64 (wrap64 (sizeOf_ a d (l ++ [(⟨n, v⟩ : S31)])) + 1) := by
    unfold sizeOf_; rw [htq, htc]; generalize tot l = T; unfold wrap64; omega
  rw [if_pos (by omega), if_pos (by omega), if_pos (by omega), if_pos (by omega), if_pos (by omega), if_pos (by omega), if_pos (by omega), if_pos e1, if_pos e2, if_pos e3, if_pos e4]
  by_cases h0 : t = 0
  · have hz := hsz h0
    have hw : wrap64 (sizeOf_ a d l) = sizeOf_ a d l := by unfold wrap64; omega
    rw [if_pos h0, hw, if_pos (by omega)]
    simp only [Option.some.injEq, decide_eq_true_eq]; omega
  · rw [if_neg h0]
end Go.Proofs.Ytgijgemgghphbaa.Pure
