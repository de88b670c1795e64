/- Chapter 5: the order of texts is the order of lists. -/
import Derived.Test.YtbohpjbcjnapfaaTupB
import Derived.Test.YtbohpjbcjnapfaaTupC
import Derived.Test.YtbohpjbcjnapfaaX61
import Derived.Test.YtbohpjbcjnapfaaX62
namespace Go.Proofs.Ytbohpjbcjnapfaa.TupM
open Go.RowKit Go.Proofs.Ytbohpjbcjnapfaa.X Go.Proofs.YtbohpjbcjnapfaaW.PrintWords Go.Proofs.YtbohpjbcjnapfaaW.PrintLast
set_option linter.unusedVariables false
set_option linter.unusedSimpArgs false

theorem cB_lt {c d : UInt8} (h : c < d) (a b : List UInt8) : Lib.compareBytes (c :: a) (d :: b) = -1 := if_pos h
theorem cB_gt {c d : UInt8} (h : d < c) (a b : List UInt8) : Lib.compareBytes (c :: a) (d :: b) = 1 := by
  have h2 : ¬ c < d := fun h2 => absurd (UInt8.lt_trans h h2) (UInt8.lt_irrefl d)
  show (if c < d then _ else if d < c then _ else _) = _
  rw [if_neg h2, if_pos h]
theorem cB_eq (c : UInt8) (a b : List UInt8) : Lib.compareBytes (c :: a) (c :: b) = Lib.compareBytes a b := by
  show (if c < c then _ else if c < c then _ else _) = _
  rw [if_neg (UInt8.lt_irrefl c), if_neg (UInt8.lt_irrefl c)]
theorem u8_three (c d : UInt8) : c < d ∨ d < c ∨ c = d := by
  by_cases h1 : c < d
  · exact .inl h1
  · by_cases h2 : d < c
    · exact .inr (.inl h2)
    · exact .inr (.inr (UInt8.le_antisymm (UInt8.not_lt.1 h2) (UInt8.not_lt.1 h1)))
theorem cB_app : ∀ (a b x y : List UInt8), a.length = b.length → Lib.compareBytes (a ++ x) (b ++ y) = if Lib.compareBytes a b = 0 then Lib.compareBytes x y else Lib.compareBytes a b
  | [], [], x, y, _ => rfl
  | [], _ :: _, _, _, h => by simp at h
  | _ :: _, [], _, _, h => by simp at h
  | c :: a, d :: b, x, y, h => by
    have ih := cB_app a b x y (by simpa using h)
    rw [List.cons_append, List.cons_append]
    rcases u8_three c d with h1 | h1 | rfl
    · rw [cB_lt h1, cB_lt h1, if_neg (by decide)]
    · rw [cB_gt h1, cB_gt h1, if_neg (by decide)]
    · rw [cB_eq, cB_eq, ih]
theorem less_cB : ∀ a b : List UInt8, (Op.bytesLess a b = true ↔ Lib.compareBytes a b = -1)
  | [], [] => by simp [Op.bytesLess, Lib.compareBytes]
  | [], _ :: _ => by simp [Op.bytesLess, Lib.compareBytes]
  | _ :: _, [] => by simp [Op.bytesLess, Lib.compareBytes]
  | c :: a, d :: b => by
    have ih := less_cB a b
    simp only [Op.bytesLess, Lib.compareBytes, Bool.or_eq_true, Bool.and_eq_true, decide_eq_true_eq, beq_iff_eq]
    by_cases h1 : c < d
    · rw [if_pos h1]; exact ⟨fun _ => rfl, fun _ => .inl h1⟩
    · rw [if_neg h1]
      by_cases h2 : d < c
      · rw [if_pos h2]
        constructor
        · rintro (h | ⟨e, _⟩)
          · exact absurd h h1
          · rw [e] at h2; exact absurd h2 (UInt8.lt_irrefl d)
        · intro h; simp at h
      · rw [if_neg h2]
        have e : c = d := UInt8.le_antisymm (UInt8.not_lt.1 h2) (UInt8.not_lt.1 h1)
        constructor
        · rintro (h | ⟨_, h⟩)
          · exact absurd h h1
          · exact ih.1 h
        · intro h; exact .inr ⟨e, ih.2 h⟩

theorem sgn_congr {a b c d : Int} (h1 : a < b ↔ c < d) (h2 : b < a ↔ d < c) : sgn a b = sgn c d := by
  unfold sgn
  by_cases x : a < b
  · rw [if_pos x, if_pos (h1.1 x)]
  · rw [if_neg x, if_neg (fun e => x (h1.2 e))]
    by_cases y : b < a
    · rw [if_pos y, if_pos (h2.1 y)]
    · rw [if_neg y, if_neg (fun e => y (h2.2 e))]
/-- Numbers of so many bytes. -/
theorem valF_cons (c : UInt8) (l : List UInt8) : valF (c :: l) = (c.toNat : Int) * 256 ^ l.length + valF l := by
  have gen : ∀ (l : List UInt8) (v : Int), l.foldl (fun v c => v * 256 + (c.toNat : Int)) v = v * 256 ^ l.length + valF l := by
    intro l
    induction l with
    | nil => intro v; simp [valF]
    | cons d l ih =>
      intro v
      have e1 := ih (v * 256 + (d.toNat : Int))
      have e2 := ih (0 * 256 + (d.toNat : Int))
      unfold valF
      rw [List.foldl_cons, List.foldl_cons, e1, e2, List.length_cons, Int.pow_succ]
      rw [Int.add_mul, Int.zero_mul, Int.zero_add, Int.mul_assoc, Int.mul_comm 256, Int.add_assoc]
  unfold valF
  rw [List.foldl_cons]
  have := gen l (0 * 256 + (c.toNat : Int))
  rw [this]
  simp [valF]
theorem cB_val : ∀ (a b : List UInt8), a.length = b.length → Lib.compareBytes a b = sgn (valF a) (valF b)
  | [], [], _ => rfl
  | [], _ :: _, h => by simp at h
  | _ :: _, [], h => by simp at h
  | c :: a, d :: b, h => by
    have hl : a.length = b.length := by simpa using h
    have ih := cB_val a b hl
    have ra := valF_range a
    have rb := valF_range b
    rw [valF_cons, valF_cons, hl]
    rw [hl] at ra
    generalize (256 : Int) ^ b.length = P at *
    rcases u8_three c d with h1 | h1 | rfl
    · have h2 := UInt8.lt_iff_toNat_lt.1 h1
      have h3 : ((c.toNat : Int) + 1) * P ≤ (d.toNat : Int) * P := Int.mul_le_mul_of_nonneg_right (by omega) (by omega)
      rw [Int.add_mul, Int.one_mul] at h3
      rw [cB_lt h1]; unfold sgn; rw [if_pos (by omega)]
    · have h2 := UInt8.lt_iff_toNat_lt.1 h1
      have h3 : ((d.toNat : Int) + 1) * P ≤ (c.toNat : Int) * P := Int.mul_le_mul_of_nonneg_right (by omega) (by omega)
      rw [Int.add_mul, Int.one_mul] at h3
      rw [cB_gt h1]; unfold sgn; rw [if_neg (by omega), if_pos (by omega)]
    · rw [cB_eq, ih]
      exact sgn_congr (by omega) (by omega)
theorem cB_be (v w : Int) (hv : 0 ≤ v ∧ v < 18446744073709551616) (hw : 0 ≤ w ∧ w < 18446744073709551616) : Lib.compareBytes (be v 8) (be w 8) = sgn v w := by
  rw [cB_val _ _ (by rw [be_len, be_len]), valF_be v hv.1 hv.2, valF_be w hw.1 hw.2]
theorem sub_T' (x : BitVec 64) : x - T = x ^^^ T := by
  have key : ∀ y : BitVec 64, y &&& T = 0 → y + T = y ^^^ T := by
    intro y hy
    rw [BitVec.add_eq_or_of_and_eq_zero _ _ hy]
    apply BitVec.eq_of_getLsbD_eq
    intro i hi
    have := congrArg (fun z => z.getLsbD i) hy
    simp only [BitVec.getLsbD_and, BitVec.getLsbD_or, BitVec.getLsbD_xor, BitVec.getLsbD_zero] at this ⊢
    rw [show BitVec.getLsbD (0 : BitVec 64) i = false by simp] at this
    revert this
    cases y.getLsbD i <;> cases T.getLsbD i <;> simp
  have hT : T + T = 0 := by decide
  have hz : ∀ y : BitVec 64, y.getLsbD 63 = false → y &&& T = 0 := by
    intro y hy
    apply BitVec.eq_of_getLsbD_eq
    intro i hi
    have hTi : T.getLsbD i = decide (i = 63) := by
      have : ∀ i : Fin 64, T.getLsbD i.1 = decide (i.1 = 63) := by decide
      exact this ⟨i, hi⟩
    rw [BitVec.getLsbD_and, hTi]
    by_cases e : i = 63
    · subst e; rw [hy]; rfl
    · simp [e]
  by_cases h : x.getLsbD 63 = false
  · rw [← key x (hz x h)]
    have : x - T = x + T := by
      rw [BitVec.sub_eq_add_neg]; rfl
    exact this
  · have hy : (x ^^^ T).getLsbD 63 = false := by
      rw [BitVec.getLsbD_xor, show T.getLsbD 63 = true by decide, eq_true_of_ne_false h]; rfl
    have e := key _ (hz _ hy)
    rw [BitVec.xor_assoc, BitVec.xor_self, BitVec.xor_zero] at e
    rw [← e, BitVec.add_sub_cancel]
    rw [e]
theorem back_num' (n : Int) (h : i64 n) : wrap64 (IntKind.u64.wrap (numR n - 9223372036854775808)) = n := by
  have e : IntKind.u64.wrap (numR n - 9223372036854775808) = enc (BitVec.ofInt 64 n) := by
    unfold numR
    rw [wrap_u64 n, T_enc, xor_enc, wrap_u64]
    congr 1
    have : BitVec.ofInt 64 (enc (BitVec.ofInt 64 n ^^^ T) - enc T) = (BitVec.ofInt 64 n ^^^ T) - T := by
      apply BitVec.eq_of_toNat_eq
      generalize BitVec.ofInt 64 n ^^^ T = y
      have hy := y.isLt
      have hT := T.isLt
      rw [BitVec.toNat_ofInt, BitVec.toNat_sub]; unfold enc; omega
    rw [this, sub_T', BitVec.xor_assoc, BitVec.xor_self, BitVec.xor_zero]
  rw [e, wrap64_enc, toInt_ofInt n h]
theorem num_sum' (n : Int) : numR n + numF n = 18446744073709551615 := by
  have : ∃ x : BitVec 64, numR n = enc x := ⟨BitVec.ofInt 64 (numR n), enc_of _ (numR_range n).1 (numR_range n).2⟩
  obtain ⟨x, hx⟩ := this
  unfold numF
  rw [hx, not_enc]
  unfold enc
  rw [BitVec.toNat_not]
  have := x.isLt; omega
theorem numR_add (n : Int) (h : i64 n) : numR n = n + 9223372036854775808 := by
  have h1 := back_num' n h
  have h2 := numR_range n
  obtain ⟨h3, h4⟩ := h
  have w : ∀ n : Int, IntKind.u64.wrap n = n % 18446744073709551616 := fun _ => rfl
  rw [w] at h1
  unfold wrap64 at h1
  omega
theorem sgn_numR (n m : Int) (hn : i64 n) (hm : i64 m) : sgn (numR n) (numR m) = sgn n m := by
  rw [numR_add n hn, numR_add m hm]; exact sgn_congr (by omega) (by omega)
theorem sgn_numF (n m : Int) (hn : i64 n) (hm : i64 m) : sgn (numF n) (numF m) = sgn m n := by
  have h1 := num_sum' n
  have h2 := num_sum' m
  rw [← sgn_numR m n hm hn]; exact sgn_congr (by omega) (by omega)

/-- A text's first n bytes, with zeros behind it, and what stands behind them. -/
def pad (n : Nat) (t : List UInt8) : List UInt8 := t.take n ++ List.replicate (n - t.length) 0
def tag (n : Nat) (t : List UInt8) : Nat := if n < t.length then n + 1 else t.length
theorem pad_len (n : Nat) (t : List UInt8) : (pad n t).length = n := by unfold pad; rw [List.length_append, List.length_take, List.length_replicate]; omega
theorem zeros_le : ∀ (n : Nat) (l : List UInt8), l.length = n → Lib.compareBytes (List.replicate n 0) l ≠ 0 → Lib.compareBytes (List.replicate n 0) l = -1
  | 0, [], _, h => absurd rfl h
  | 0, _ :: _, h, _ => by simp at h
  | n + 1, [], h, _ => by simp at h
  | n + 1, c :: l, h, h2 => by
    rw [List.replicate_succ] at h2 ⊢
    simp only [Lib.compareBytes] at h2 ⊢
    by_cases h3 : (0 : UInt8) < c
    · rw [if_pos h3]
    · have h4 : ¬ c < 0 := by
        intro h; have := UInt8.lt_iff_toNat_lt.1 h; simp at this
      rw [if_neg h3, if_neg h4] at h2 ⊢
      exact zeros_le n l (by simpa using h) h2
theorem pad_nil (n : Nat) : pad n [] = List.replicate n 0 := by unfold pad; simp
theorem pad_cons (n : Nat) (c : UInt8) (t : List UInt8) : pad (n + 1) (c :: t) = c :: pad n t := by unfold pad; simp
theorem tag_cons (n : Nat) (c : UInt8) (t : List UInt8) : tag (n + 1) (c :: t) = tag n t + 1 := by unfold tag; rw [List.length_cons]; split <;> split <;> omega
theorem tag_nil (n : Nat) : tag n [] = 0 := by unfold tag; simp
/-- What decides between two texts: the padded beginnings, how much of them is text, and the rest. -/
def deci (n : Nat) (t u : List UInt8) : Int := if Lib.compareBytes (pad n t) (pad n u) = 0 then (if tag n t < tag n u then -1 else if tag n u < tag n t then 1 else Lib.compareBytes (t.drop n) (u.drop n)) else Lib.compareBytes (pad n t) (pad n u)
theorem deci_neg (n : Nat) (t u : List UInt8) : deci n u t = -deci n t u := by
  unfold deci
  rw [cB_neg (pad n t) (pad n u), cB_neg (t.drop n) (u.drop n)]
  by_cases h : Lib.compareBytes (pad n t) (pad n u) = 0
  · rw [if_pos (by omega), if_pos h]
    by_cases h1 : tag n t < tag n u
    · rw [if_neg (by omega), if_pos h1, if_pos h1]; rfl
    · by_cases h2 : tag n u < tag n t
      · rw [if_pos h2, if_neg h1, if_pos h2]
      · rw [if_neg h2, if_neg h1, if_neg h1, if_neg h2]
  · rw [if_neg (by omega), if_neg h]
theorem nil_deci (n : Nat) (c : UInt8) (u : List UInt8) : deci (n + 1) [] (c :: u) = -1 := by
  unfold deci
  by_cases h : Lib.compareBytes (pad (n + 1) []) (pad (n + 1) (c :: u)) = 0
  · rw [if_pos h, tag_nil, tag_cons, if_pos (by omega)]
  · rw [if_neg h]
    rw [pad_nil] at h ⊢
    exact zeros_le _ _ (pad_len _ _) h
theorem cB_deci : ∀ (n : Nat) (t u : List UInt8), Lib.compareBytes t u = deci n t u
  | 0, [], [] => rfl
  | 0, [], d :: u => by unfold deci pad tag; simp [Lib.compareBytes]
  | 0, c :: t, [] => by unfold deci pad tag; simp [Lib.compareBytes]
  | 0, c :: t, d :: u => by
    unfold deci pad tag
    simp [Lib.compareBytes]
  | n + 1, [], [] => by unfold deci; rw [if_pos (cB_self _), if_neg (by omega), if_neg (by omega)]; rfl
  | n + 1, [], d :: u => by rw [nil_deci]; rfl
  | n + 1, c :: t, [] => by rw [deci_neg, nil_deci]; rfl
  | n + 1, c :: t, d :: u => by
    have ih := cB_deci n t u
    unfold deci at ih ⊢
    rw [pad_cons, pad_cons, tag_cons, tag_cons, List.drop_succ_cons, List.drop_succ_cons]
    rcases u8_three c d with h1 | h1 | rfl
    · rw [cB_lt h1, cB_lt h1, if_neg (by decide)]
    · rw [cB_gt h1, cB_gt h1, if_neg (by decide)]
    · rw [cB_eq, cB_eq, ih]
      by_cases h3 : Lib.compareBytes (pad n t) (pad n u) = 0
      · rw [if_pos h3, if_pos h3]
        by_cases h4 : tag n t < tag n u
        · rw [if_pos h4, if_pos (show tag n t + 1 < tag n u + 1 by omega)]
        · rw [if_neg h4, if_neg (show ¬ tag n t + 1 < tag n u + 1 by omega)]
          by_cases h5 : tag n u < tag n t
          · rw [if_pos h5, if_pos (show tag n u + 1 < tag n t + 1 by omega)]
          · rw [if_neg h5, if_neg (show ¬ tag n u + 1 < tag n t + 1 by omega)]
      · rw [if_neg h3, if_neg h3]
theorem grp_pad (t : List UInt8) : grp t = pad 8 t ++ UInt8.ofNat (tag 8 t) :: (if 8 < t.length then grp (t.drop 8) else []) := by
  by_cases h : 8 < t.length
  · rw [grp_long h]; unfold pad tag
    rw [if_pos h, if_pos h, show 8 - t.length = 0 by omega, List.replicate_zero, List.append_nil]; rfl
  · rw [grp_short (by omega)]; unfold pad tag
    rw [if_neg h, if_neg h, List.take_of_length_le (by omega)]
theorem tag_le (t : List UInt8) : tag 8 t ≤ 9 := by unfold tag; split <;> omega
theorem ofNat_lt (a b : Nat) (ha : a ≤ 9) (hb : b ≤ 9) : (UInt8.ofNat a < UInt8.ofNat b ↔ a < b) := by
  rw [UInt8.lt_iff_toNat_lt, UInt8.toNat_ofNat', UInt8.toNat_ofNat']; omega
theorem cB_grp (t : List UInt8) : ∀ (u x y : List UInt8), Lib.compareBytes (grp t ++ x) (grp u ++ y) = if Lib.compareBytes t u = 0 then Lib.compareBytes x y else Lib.compareBytes t u := by
  induction hn : t.length using Nat.strongRecOn generalizing t with
  | _ n ih =>
    intro u x y
    rw [cB_deci 8 t u]
    unfold deci
    rw [grp_pad t, grp_pad u, List.append_assoc, List.append_assoc, cB_app _ _ _ _ (by rw [pad_len, pad_len])]
    by_cases h : Lib.compareBytes (pad 8 t) (pad 8 u) = 0
    · rw [if_pos h, if_pos h, List.cons_append, List.cons_append]
      by_cases h1 : tag 8 t < tag 8 u
      · rw [cB_lt ((ofNat_lt _ _ (tag_le t) (tag_le u)).2 h1), if_pos h1, if_neg (by decide)]
      · by_cases h2 : tag 8 u < tag 8 t
        · rw [cB_gt ((ofNat_lt _ _ (tag_le u) (tag_le t)).2 h2), if_neg h1, if_pos h2, if_neg (by decide)]
        · have h5 : tag 8 t = tag 8 u := by omega
          rw [h5, cB_eq, if_neg (Nat.lt_irrefl _), if_neg (Nat.lt_irrefl _)]
          by_cases h3 : 8 < t.length
          · have h4 : 8 < u.length := by unfold tag at h5; rw [if_pos h3] at h5; split at h5 <;> omega
            rw [if_pos h3, if_pos h4]
            exact ih (t.drop 8).length (by rw [List.length_drop]; omega) (t.drop 8) rfl (u.drop 8) x y
          · have h4 : ¬ 8 < u.length := by unfold tag at h5; rw [if_neg h3] at h5; split at h5 <;> omega
            rw [if_neg h3, if_neg h4, List.drop_of_length_le (l := t) (by omega), List.drop_of_length_le (l := u) (by omega)]
            rfl
    · rw [if_neg h, if_neg h, if_neg h]
theorem cB_part (p q : S52) (hp : okP p) (hq : okP q) (x y : List UInt8) : Lib.compareBytes (encP p ++ x) (encP q ++ y) = if cmpP p q = 0 then Lib.compareBytes x y else cmpP p q := by
  obtain ⟨pa, ps, pn⟩ := p
  obtain ⟨qa, qs, qn⟩ := q
  have ip := hp.2
  have iq := hq.2
  have vp := vld_cases hp.1
  have vq := vld_cases hq.1
  simp only at ip iq vp vq
  rcases vp with ⟨rfl, rfl⟩ | ⟨rfl, rfl⟩ | ⟨rfl, rfl⟩ <;> rcases vq with ⟨rfl, rfl⟩ | ⟨rfl, rfl⟩ | ⟨rfl, rfl⟩
  · have e1 : encP ⟨1, ps, 0⟩ = 1 :: grp ps.data.toList := rfl
    have e2 : encP ⟨1, qs, 0⟩ = 1 :: grp qs.data.toList := rfl
    have e3 : cmpP ⟨1, ps, 0⟩ ⟨1, qs, 0⟩ = Lib.compareBytes ps.data.toList qs.data.toList := by
      unfold cmpP
      simp only
      rw [if_pos trivial]
      by_cases h : Lib.compareBytes ps.data.toList qs.data.toList = 0
      · rw [if_pos h, if_neg (by decide), h]; rfl
      · rw [if_neg h]
    rw [e1, e2, e3, ← cB_grp]; rfl
  · rfl
  · rfl
  · rfl
  · have e1 : encP ⟨2, tx [], pn⟩ = 2 :: be (numR pn) 8 := rfl
    have e2 : encP ⟨2, tx [], qn⟩ = 2 :: be (numR qn) 8 := rfl
    have e3 : cmpP ⟨2, tx [], pn⟩ ⟨2, tx [], qn⟩ = sgn pn qn := rfl
    have := cB_app (be (numR pn) 8) (be (numR qn) 8) x y (by rw [be_len, be_len])
    rw [cB_be _ _ (numR_range pn) (numR_range qn), sgn_numR pn qn ip iq] at this
    rw [e1, e2, e3, ← this]; rfl
  · rfl
  · rfl
  · rfl
  · have e1 : encP ⟨3, tx [], pn⟩ = 3 :: be (numF pn) 8 := rfl
    have e2 : encP ⟨3, tx [], qn⟩ = 3 :: be (numF qn) 8 := rfl
    have e3 : cmpP ⟨3, tx [], pn⟩ ⟨3, tx [], qn⟩ = sgn qn pn := rfl
    have := cB_app (be (numF pn) 8) (be (numF qn) 8) x y (by rw [be_len, be_len])
    rw [cB_be _ _ (numF_range pn) (numF_range qn), sgn_numF pn qn ip iq] at this
    rw [e1, e2, e3, ← this]; rfl
theorem cB_list : ∀ (a b : List S52), (∀ p ∈ a, okP p) → (∀ p ∈ b, okP p) → Lib.compareBytes (encL a) (encL b) = cmpL a b
  | [], [], _, _ => rfl
  | [], q :: b, _, hb => by
    rw [encL_cons q b (hb q (by simp)).1]
    have := encP_pos q
    cases h : encP q with
    | nil => rw [h] at this; simp at this
    | cons c l => rfl
  | p :: a, [], ha, _ => by
    rw [encL_cons p a (ha p (by simp)).1]
    have := encP_pos p
    cases h : encP p with
    | nil => rw [h] at this; simp at this
    | cons c l => rfl
  | p :: a, q :: b, ha, hb => by
    rw [encL_cons p a (ha p (by simp)).1, encL_cons q b (hb q (by simp)).1, cB_part p q (ha p (by simp)) (hb q (by simp)), cB_list a b (fun p hp => ha p (by simp [hp])) (fun p hp => hb p (by simp [hp]))]
    rfl
theorem cmpP_zero (p q : S52) (hp : okP p) (hq : okP q) (h : cmpP p q = 0) : p = q := by
  obtain ⟨pa, ps, pn⟩ := p
  obtain ⟨qa, qs, qn⟩ := q
  have vp := vld_cases hp.1
  have vq := vld_cases hq.1
  simp only at vp vq
  unfold cmpP at h
  simp only at h
  by_cases hk : pa = qa
  · rw [if_pos hk] at h
    subst hk
    by_cases hc : Lib.compareBytes ps.data.toList qs.data.toList = 0
    · rw [if_pos hc] at h
      have hs : ps = qs := by rw [← tx_toList ps, ← tx_toList qs, cB_zero hc]
      have hn : pn = qn := by
        split at h
        · exact (sgn_zero h).symm
        · exact sgn_zero h
      rw [hs, hn]
    · rw [if_neg hc] at h; exact absurd h hc
  · rw [if_neg hk] at h; exact absurd (sgn_zero h) hk
theorem cmpP_self (p : S52) : cmpP p p = 0 := by
  unfold cmpP; rw [if_pos rfl, cB_self, if_pos rfl]; split <;> exact sgn_self _
theorem cmpL_eq : ∀ (a b : List S52), (∀ p ∈ a, okP p) → (∀ p ∈ b, okP p) → (cmpL a b = 0 ↔ a = b)
  | [], [], _, _ => by simp [cmpL]
  | [], _ :: _, _, _ => by simp [cmpL]
  | _ :: _, [], _, _ => by simp [cmpL]
  | p :: a, q :: b, ha, hb => by
    have ih := cmpL_eq a b (fun p hp => ha p (by simp [hp])) (fun p hp => hb p (by simp [hp]))
    simp only [cmpL]
    by_cases h : cmpP p q = 0
    · rw [if_pos h, ih, cmpP_zero p q (ha p (by simp)) (hb q (by simp)) h]; simp
    · rw [if_neg h]
      constructor
      · intro h2; exact absurd h2 h
      · intro h2; injection h2 with h2 _; rw [h2] at h; exact absurd (cmpP_self q) h
theorem sgn_lt (a b : Int) : (sgn a b = -1 ↔ a < b) := by unfold sgn; split <;> (try split) <;> omega
theorem cmpL_same {p q : S52} (h : cmpP p q = 0) (a b : List S52) : cmpL (p :: a) (q :: b) = cmpL a b := if_pos h
theorem cmpL_diff {p q : S52} (h : ¬ cmpP p q = 0) (a b : List S52) : cmpL (p :: a) (q :: b) = cmpP p q := if_neg h
theorem less_l0 (a b : List S52) (ha : ∀ p ∈ a, okP p) (hb : ∀ p ∈ b, okP p) (hl : a.length ≤ 2097152) : ∀ (d i k : Nat), i + d = a.length → i ≤ b.length → 2 * d + 2 < k → cofferlaw05_less.l0 k a b (i : Int) = some (decide (cmpL (a.drop i) (b.drop i) = -1))
  | 0, i, k, e, hi, hk => by
    obtain ⟨k, rfl⟩ : ∃ q, k = q + 1 + 1 := ⟨k - 2, by omega⟩
    have := cmpL_end a b i (by omega)
    simp only [cofferlaw05_less.l0, cofferlaw05_less.j1]
    rw [if_neg (by omega), if_neg (by decide), this]
    congr 1
    exact decide_eq_decide.2 (sgn_lt _ _).symm
  | d + 1, i, k, e, hi, hk => by
    obtain ⟨k, rfl⟩ : ∃ q, k = q + 1 + 1 := ⟨k - 2, by omega⟩
    have ia : i < a.length := by omega
    simp only [cofferlaw05_less.l0, cofferlaw05_less.j1]
    rw [if_pos (by omega)]
    by_cases ib : i < b.length
    · have rest := less_l0 a b ha hb hl d (i + 1) k (by omega) (by omega) (by omega)
      have op := ha a[i] (List.getElem_mem ia)
      have oq := hb b[i] (List.getElem_mem ib)
      rw [if_pos (by simpa using ib), if_pos (by omega), if_pos (by omega), if_pos (by omega), rd52 a i ia, rd52 b i ib, w64_succ i (by omega), rest, List.drop_eq_getElem_cons ia, List.drop_eq_getElem_cons ib]
      generalize a[i] = p at *
      generalize b[i] = q at *
      by_cases he : p = q
      · subst he
        rw [if_pos (by simp), cmpL_same (cmpP_self p)]
      · have hz : ¬ cmpP p q = 0 := fun h => he (cmpP_zero p q op oq h)
        rw [if_neg (by
          intro h
          simp only [Bool.and_eq_true, beq_iff_eq] at h
          exact he (S52.ext' h.1 h.2.1 h.2.2)), cmpL_diff hz]
        obtain ⟨pa, ps, pn⟩ := p
        obtain ⟨qa, qs, qn⟩ := q
        have vp := vld_cases op.1
        have vq := vld_cases oq.1
        simp only at vp vq ⊢
        by_cases hk2 : pa = qa
        · subst hk2
          rw [if_pos rfl]
          rcases vp with ⟨rfl, rfl⟩ | ⟨rfl, rfl⟩ | ⟨rfl, rfl⟩
          · have e3 : cmpP ⟨1, ps, 0⟩ ⟨1, qs, qn⟩ = Lib.compareBytes ps.data.toList qs.data.toList := by
              obtain ⟨_, rfl⟩ : True ∧ qn = 0 := ⟨trivial, by omega⟩
              unfold cmpP
              simp only
              rw [if_pos trivial]
              by_cases h : Lib.compareBytes ps.data.toList qs.data.toList = 0
              · rw [if_pos h, if_neg (by decide), h]; rfl
              · rw [if_neg h]
            rw [if_pos rfl, e3, ByteArray.toList_eq, ByteArray.toList_eq]
            congr 1
            apply Bool.eq_iff_iff.2
            rw [decide_eq_true_iff]; exact less_cB _ _
          · have hqs : qs = tx [] := by
              rcases vq with ⟨h, _⟩ | ⟨_, h⟩ | ⟨h, _⟩
              · omega
              · exact h
              · omega
            subst hqs
            have e3 : cmpP ⟨2, tx [], pn⟩ ⟨2, tx [], qn⟩ = sgn pn qn := rfl
            rw [if_neg (by decide), if_pos rfl, e3]
            congr 1
            exact decide_eq_decide.2 (sgn_lt _ _).symm
          · have hqs : qs = tx [] := by
              rcases vq with ⟨h, _⟩ | ⟨h, _⟩ | ⟨_, h⟩
              · omega
              · omega
              · exact h
            subst hqs
            have e3 : cmpP ⟨3, tx [], pn⟩ ⟨3, tx [], qn⟩ = sgn qn pn := rfl
            rw [if_neg (by decide), if_neg (by decide), e3]
            congr 1
            exact decide_eq_decide.2 (sgn_lt _ _).symm
        · rw [if_neg hk2]
          have e3 : cmpP ⟨pa, ps, pn⟩ ⟨qa, qs, qn⟩ = sgn pa qa := by unfold cmpP; rw [if_neg hk2]
          rw [e3]
          congr 1
          exact decide_eq_decide.2 (sgn_lt _ _).symm
    · have := cmpL_end a b i (by omega)
      rw [if_neg (by simpa using ib), this]
      congr 1
      exact decide_eq_decide.2 (sgn_lt _ _).symm
theorem less_f (a b : List S52) (ha : ∀ p ∈ a, okP p) (hb : ∀ p ∈ b, okP p) (hl : a.length ≤ 2097152) (k : Nat) (hk : 2 * a.length + 2 < k) : cofferlaw05_less.f k a b = some (decide (cmpL a b = -1)) := less_l0 a b ha hb hl a.length 0 k (by omega) (by omega) hk
theorem order_c (s t : List UInt8) : cofferlaw05_order.f (tx s) (tx t) = some (Lib.compareBytes s t) := by
  unfold cofferlaw05_order.f
  rw [tx_tl, tx_tl]
  by_cases h : Lib.compareBytes s t = -1
  · rw [if_pos ((less_cB s t).2 h), h]
  · rw [if_neg (fun e => h ((less_cB s t).1 e))]
    by_cases h2 : Lib.compareBytes s t = 1
    · rw [if_pos ((less_cB t s).2 (by rw [cB_neg s t, h2])), h2]
    · rw [if_neg (fun e => h2 (by have := (less_cB t s).1 e; rw [cB_neg s t] at this; omega))]
      rcases cB_three s t with h3 | h3 | h3
      · exact absurd h3 h
      · rw [h3]
      · exact absurd h3 h2
end Go.Proofs.Ytbohpjbcjnapfaa.TupM
