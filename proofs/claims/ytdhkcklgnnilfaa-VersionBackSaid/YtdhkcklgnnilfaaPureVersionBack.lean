/- VersionBack: a right version is read back, with a byte more or fewer it is none; of two that are unlike neither's bytes are the beginning of the other's; what is read is written again. No condition beside the row's own. -/
import Derived.Test.YtdhkcklgnnilfaaVerSame
import Derived.Test.YtdhkcklgnnilfaaStVersionBack
namespace Go.Proofs.Ytdhkcklgnnilfaa.Pure
set_option linter.unusedVariables false
set_option linter.unusedSimpArgs false
open Go.RowKit Go.Proofs.Ytdhkcklgnnilfaa.X Go.Proofs.Ytdhkcklgnnilfaa.Link Go.Proofs.YtdhkcklgnnilfaaW.PrintWords Go.Proofs.YtdhkcklgnnilfaaW.PrintLast

theorem first_true : cofferlaw13_first.f 40 = some true := by decide +kernel
theorem first_any (k : Nat) (hk : 40 ≤ k) : cofferlaw13_first.f k = some true := at_rounds (fun k => cofferlaw13_first.mono k) hk first_true
/-- What Write gives. -/
def wr (a : ByteArray) (q : Int) (m : Bool) (d : ByteArray) (l : List S31) : ByteArray × Int := if errV a q m d l = 0 then (strOfNums (encV a q m d l), 0) else ((⟨#[]⟩ : ByteArray), errV a q m d l)
theorem wr_zero (a : ByteArray) (q : Int) (m : Bool) (d : ByteArray) (l : List S31) : ((wr a q m d l).2 = 0 ↔ errV a q m d l = 0) ∧ (errV a q m d l = 0 → (wr a q m d l).1 = strOfNums (encV a q m d l)) ∧ (¬ errV a q m d l = 0 → (wr a q m d l).1.toList = []) := by
  unfold wr
  by_cases h : errV a q m d l = 0
  · rw [if_pos h]; simp [h]
  · rw [if_neg h]; refine ⟨by simp, fun e => absurd e h, fun _ => by rw [toList_data]⟩
theorem j2_true (k : Nat) (hk : 700 ≤ k) (b : ByteArray) : cofferlaw13_VersionBack.j2 k b false = some true := by
  obtain ⟨k, rfl⟩ : ∃ q, k = q + 1 := ⟨k - 1, by omega⟩
  obtain ⟨o, h1, hg⟩ := read_any b k (by omega)
  simp only [cofferlaw13_VersionBack.j2]
  rw [if_neg (by decide), h1]
  simp only [Option.bind_some]
  rcases hg with rfl | ⟨a, q, m, d, l, rfl, he, hx⟩
  · unfold nul
    simp only
    rw [if_neg (by decide), if_pos trivial, same_self _ _ _ _ _ (by simp) k (by simp; omega)]
    rfl
  · have hl := (metaOk_sizes (errV_zero he).2.2.2.2.2.1).1
    simp only
    rw [if_pos trivial, write_eq a q m d l (by omega) k (by omega), if_pos he]
    simp only [Option.bind_some]
    rw [if_pos trivial, hx]
    simp
theorem extract_split (x : ByteArray) (n : Nat) (h : n ≤ x.size) : x = x.extract 0 n ++ x.extract n x.size := by
  apply toList_inj
  rw [toList_data, toList_data]
  simp only [ByteArray.data_append, ByteArray.data_extract]
  simp
  exact (List.take_of_length_le (by rw [data_length]; omega)).symm
theorem enc_size (a : ByteArray) (q : Int) (m : Bool) (d : ByteArray) (l : List S31) (he : errV a q m d l = 0) : 10 ≤ (strOfNums (encV a q m d l)).size ∧ (strOfNums (encV a q m d l)).size ≤ 3000 := by
  obtain ⟨q1, q2, a0, a1, d1, ml, mm⟩ := errV_zero he
  have hs := metaOk_sizes ml
  have hf := flat_len l fun p hp => ⟨(hs.2 p hp).1, (hs.2 p hp).2.1⟩
  rw [son_size]
  unfold encV encT
  cases m <;> simp [be_length, bytesOf_length] at hf ⊢ <;> omega
/-- A right version's bytes without the last one are none's. -/
theorem read_less (a : ByteArray) (q : Int) (m : Bool) (d : ByteArray) (l : List S31) (he : errV a q m d l = 0) (n : Nat) (hn : n < (strOfNums (encV a q m d l)).size) (k : Nat) (hk : 600 ≤ k) : version_Read.f k ((strOfNums (encV a q m d l)).extract 0 n) = some nul := by
  obtain ⟨o, h1, hg⟩ := read_any ((strOfNums (encV a q m d l)).extract 0 n) k hk
  rcases hg with rfl | ⟨a', q', m', d', l', rfl, he', hx⟩
  · exact h1
  · have hp := enc_prefix a' q' m' d' l' a q m d l he' he ((strOfNums (encV a q m d l)).extract n (strOfNums (encV a q m d l)).size) (by rw [hx]; exact extract_split _ n (by omega))
    have h2 := hp.1
    rw [ByteArray.size_extract] at h2
    omega
theorem son_lists {x y : ByteArray} {n : Nat} (h : (y.extract 0 n).toList = x.toList) (hn : n = x.size) (hl : x.size ≤ y.size) : ∃ z, y = x ++ z := by
  refine ⟨y.extract n y.size, ?_⟩
  rw [← toList_inj h]
  exact extract_split y n (by omega)
theorem j1_true (k : Nat) (hk : 800 ≤ k) (x2 : ByteArray) (a : ByteArray) (q : Int) (m : Bool) (d : ByteArray) (l : List S31) (a' : ByteArray) (q' : Int) (m' : Bool) (d' : ByteArray) (l' : List S31) :
    cofferlaw13_VersionBack.j1 k x2 (wr a q m d l).1 (wr a q m d l).2 (wr a' q' m' d' l').1 (wr a' q' m' d' l').2 a q m d l a' q' m' d' l' = some true := by
  obtain ⟨k, rfl⟩ : ∃ q, k = q + 1 := ⟨k - 1, by omega⟩
  have hj := j2_true k (by omega) x2
  obtain ⟨w1, w2, _⟩ := wr_zero a q m d l
  obtain ⟨w3, w4, _⟩ := wr_zero a' q' m' d' l'
  simp only [cofferlaw13_VersionBack.j1]
  by_cases h1 : errV a q m d l = 0
  · rw [if_pos (w1.2 h1)]
    by_cases h2 : errV a' q' m' d' l' = 0
    · rw [if_pos (w3.2 h2)]
      have hl := (metaOk_sizes (errV_zero h1).2.2.2.2.2.1).1
      obtain ⟨b, hb, hi⟩ := same_eq a q m d l a' q' m' d' l' (by omega) k (by omega)
      rw [hb]
      simp only [Option.bind_some]
      cases b
      · rw [if_neg (by decide)]
        have hne : ¬ (a = a' ∧ q = q' ∧ m = m' ∧ d = d' ∧ l = l') := fun e => by have := hi.2 e; cases this
        rw [w2 h1, w4 h2]
        have n1 : ∀ n : Nat, n = (strOfNums (encV a q m d l)).size → (strOfNums (encV a q m d l)).size ≤ (strOfNums (encV a' q' m' d' l')).size → ¬ ((strOfNums (encV a' q' m' d' l')).extract 0 n).toList = (strOfNums (encV a q m d l)).toList := by
          intro n hn hle h
          obtain ⟨z, hz⟩ := son_lists h hn hle
          exact hne (enc_prefix a q m d l a' q' m' d' l' h1 h2 z hz).2
        have n2 : ∀ n : Nat, n = (strOfNums (encV a' q' m' d' l')).size → (strOfNums (encV a' q' m' d' l')).size ≤ (strOfNums (encV a q m d l)).size → (((strOfNums (encV a q m d l)).extract 0 n).toList == (strOfNums (encV a' q' m' d' l')).toList) = false := by
          intro n hn hle
          rw [beq_eq_false_iff_ne]
          intro h
          obtain ⟨z, hz⟩ := son_lists h hn hle
          have := (enc_prefix a' q' m' d' l' a q m d l h2 h1 z hz).2
          exact hne ⟨this.1.symm, this.2.1.symm, this.2.2.1.symm, this.2.2.2.1.symm, this.2.2.2.2.symm⟩
        have c1 : ∀ n : Int, (n.toNat = (strOfNums (encV a' q' m' d' l')).size) → ((strOfNums (encV a' q' m' d' l')).size : Int) ≤ ((strOfNums (encV a q m d l)).size : Int) → cofferlaw13_VersionBack.j2 k x2 (((strOfNums (encV a q m d l)).extract 0 n.toNat).toList == (strOfNums (encV a' q' m' d' l')).toList) = some true := by
          intro n hn hle
          rw [n2 _ hn (by omega)]; exact hj
        by_cases g1 : ((strOfNums (encV a q m d l)).size : Int) ≤ ((strOfNums (encV a' q' m' d' l')).size : Int)
        · rw [if_pos g1, if_pos (by omega), if_neg (n1 _ (by simp) (by omega))]
          by_cases g2 : ((strOfNums (encV a' q' m' d' l')).size : Int) ≤ ((strOfNums (encV a q m d l)).size : Int)
          · rw [if_pos g2, if_pos (by omega)]
            exact c1 _ (by simp) g2
          · rw [if_neg g2]; exact hj
        · rw [if_neg g1]
          by_cases g2 : ((strOfNums (encV a' q' m' d' l')).size : Int) ≤ ((strOfNums (encV a q m d l)).size : Int)
          · rw [if_pos g2, if_pos (by omega)]
            exact c1 _ (by simp) g2
          · rw [if_neg g2]; exact hj
      · rw [if_pos rfl]; exact hj
    · rw [if_neg (fun e => h2 (w3.1 e))]; exact hj
  · rw [if_neg (fun e => h1 (w1.1 e))]; exact hj
theorem j0_true (k : Nat) (hk : 900 ≤ k) (x2 : ByteArray) (a : ByteArray) (q : Int) (m : Bool) (d : ByteArray) (l : List S31) (a' : ByteArray) (q' : Int) (m' : Bool) (d' : ByteArray) (l' : List S31) :
    cofferlaw13_VersionBack.j0 k x2 (wr a q m d l).1 (wr a q m d l).2 (wr a' q' m' d' l').1 (wr a' q' m' d' l').2 false a q m d l a' q' m' d' l' = some true := by
  obtain ⟨k, rfl⟩ : ∃ q, k = q + 1 := ⟨k - 1, by omega⟩
  have hj := j1_true k (by omega) x2 a q m d l a' q' m' d' l'
  obtain ⟨w1, w2, _⟩ := wr_zero a q m d l
  simp only [cofferlaw13_VersionBack.j0]
  rw [if_neg (by decide)]
  by_cases h1 : errV a q m d l = 0
  · have hs := enc_size a q m d l h1
    have hl := (metaOk_sizes (errV_zero h1).2.2.2.2.2.1).1
    have hw : wrap64 (((strOfNums (encV a q m d l)).size : Int) - 1) = (((strOfNums (encV a q m d l)).size - 1 : Nat) : Int) := by unfold wrap64; omega
    rw [if_pos (w1.2 h1)]
    rw [w2 h1] at hj ⊢
    rw [read_back a q m d l h1 k (by omega)]
    simp only [Option.bind_some]
    rw [if_pos (by omega), read_more a q m d l h1 (⟨#[0]⟩ : ByteArray) (by decide) k (by omega)]
    simp only [Option.bind_some]
    rw [hw, if_pos (by omega), if_pos (by omega), Int.toNat_natCast, read_less a q m d l h1 _ (by omega) k (by omega)]
    simp only [Option.bind_some]
    rw [if_pos trivial, same_self a q m d l (by omega) k (by omega)]
    simp only [Option.bind_some]
    rw [if_pos trivial, if_pos (show nul.2.2.2.2.2 = 4 from rfl), if_pos (show nul.2.2.2.2.2 = 4 from rfl)]
    exact hj
  · rw [if_neg (fun e => h1 (w1.1 e))]; exact hj
theorem VersionBack : cofferlaw13_VersionBack.Pure := by
  intro x y b hx hy hb
  have lx := hx.2.2.2.2.1
  have ly := hy.2.2.2.2.1
  refine ⟨x.f4.length + y.f4.length + 1000, ?_⟩
  generalize hk : x.f4.length + y.f4.length + 1000 = k
  obtain ⟨w1, w2, w5⟩ := wr_zero x.f0 x.f1 x.f2 x.f3 x.f4
  obtain ⟨w3, w4, w6⟩ := wr_zero y.f0 y.f1 y.f2 y.f3 y.f4
  have e1 : version_Write.f k x.f0 x.f1 x.f2 x.f3 x.f4 = some (wr x.f0 x.f1 x.f2 x.f3 x.f4) := write_eq _ _ _ _ _ (by omega) k (by omega)
  have e2 : version_Write.f k y.f0 y.f1 y.f2 y.f3 y.f4 = some (wr y.f0 y.f1 y.f2 y.f3 y.f4) := write_eq _ _ _ _ _ (by omega) k (by omega)
  have hj := j0_true k (by omega) b x.f0 x.f1 x.f2 x.f3 x.f4 y.f0 y.f1 y.f2 y.f3 y.f4
  unfold cofferlaw13_VersionBack.f
  rw [e1, e2, first_any k (by omega)]
  simp only [Option.bind_some]
  rw [if_pos trivial]
  by_cases h1 : errV x.f0 x.f1 x.f2 x.f3 x.f4 = 0
  · rw [if_pos (w1.2 h1)]
    by_cases h2 : errV y.f0 y.f1 y.f2 y.f3 y.f4 = 0
    · rw [if_pos (w3.2 h2)]; exact hj
    · rw [if_neg (fun e => h2 (w3.1 e)), show ((wr y.f0 y.f1 y.f2 y.f3 y.f4).1.toList != ([] : List UInt8)) = false by rw [w6 h2]; rfl]; exact hj
  · rw [if_neg (fun e => h1 (w1.1 e)), if_pos (w5 h1)]
    by_cases h2 : errV y.f0 y.f1 y.f2 y.f3 y.f4 = 0
    · rw [if_pos (w3.2 h2)]; exact hj
    · rw [if_neg (fun e => h2 (w3.1 e)), show ((wr y.f0 y.f1 y.f2 y.f3 y.f4).1.toList != ([] : List UInt8)) = false by rw [w6 h2]; rfl]; exact hj
end Go.Proofs.Ytdhkcklgnnilfaa.Pure
