import Derived.Test.YtbohpjbcjnapfaaStTupleLimitsUpto
import Derived.Test.YtbohpjbcjnapfaaTupB
namespace Go.Proofs.Ytbohpjbcjnapfaa.TupM
set_option linter.unusedVariables false
set_option linter.unusedSimpArgs false
open Go.RowKit Go.Proofs.Ytbohpjbcjnapfaa.X Go.Proofs.YtbohpjbcjnapfaaW.PrintWords Go.Proofs.YtbohpjbcjnapfaaW.PrintLast

theorem less_front : ∀ (w r : List UInt8), Op.bytesLess (w ++ r) w = false
  | [], r => by cases r <;> rfl
  | c :: w, r => by
    have := less_front w r
    simp only [List.cons_append, Op.bytesLess, this, Bool.and_false, Bool.or_false, decide_eq_false_iff_not]
    exact UInt8.lt_irrefl c
theorem less_behind : ∀ (w r : List UInt8), (∀ c, r.head? = some c → c < 255) → Op.bytesLess (w ++ r) (w ++ [255]) = true
  | [], [], _ => rfl
  | [], c :: r, h => by
    simp only [List.nil_append, Op.bytesLess, Bool.or_eq_true, decide_eq_true_eq]
    exact .inl (h c rfl)
  | c :: w, r, h => by
    have := less_behind w r h
    simp only [List.cons_append, Op.bytesLess, this]
    simp
theorem less_not : ∀ (w s : List UInt8), ¬ w <+: s → Op.bytesLess s w = false → Op.bytesLess s (w ++ [255]) = false
  | [], s, h, _ => absurd List.nil_prefix h
  | c :: w, [], h, h2 => by simp [Op.bytesLess] at h2
  | c :: w, d :: s, h, h2 => by
    simp only [Op.bytesLess, Bool.or_eq_false_iff, decide_eq_false_iff_not] at h2
    simp only [List.cons_append, Op.bytesLess, Bool.or_eq_false_iff, decide_eq_false_iff_not]
    refine ⟨h2.1, ?_⟩
    by_cases e : d = c
    · subst e
      have h3 : ¬ w <+: s := fun hp => h (List.cons_prefix_cons.2 ⟨rfl, hp⟩)
      have h4 : Op.bytesLess s w = false := by simpa using h2.2
      rw [less_not w s h3 h4]; simp
    · have : (d == c) = false := beq_eq_false_iff_ne.2 e
      rw [this]; rfl
theorem encP_head (p : S52) (h : okP p) (r : List UInt8) : ∀ c, (encP p ++ r).head? = some c → c < 255 := by
  intro c hc
  unfold encP at hc
  split at hc
  · simp at hc; rw [← hc]; decide
  · split at hc
    · simp at hc; rw [← hc]; decide
    · simp at hc; rw [← hc]; decide
theorem encL_head (l : List S52) (h : ∀ p ∈ l, okP p) : ∀ c, (encL l).head? = some c → c < 255 := by
  cases l with
  | nil => intro c hc; simp [encL] at hc
  | cons p l =>
    rw [encL_cons _ _ (h p (by simp)).1]
    exact encP_head p (h p (by simp)) _
theorem limits_ok (l : List S52) (b : List UInt8) (h : tuple_Write.f l = some (tx b, 0)) (hb : b.length ≤ 4398046511000) : tuple_Limits.f l = some (tx b, tx (b ++ [255]), 0) := by
  unfold tuple_Limits.f
  rw [h]
  simp only [Option.bind_some]
  rw [if_pos trivial, if_pos (by rw [tx_size]; omega)]
  have : tx b ++ (⟨#[255]⟩ : ByteArray) = tx (b ++ [255]) := tx_append b [255]
  rw [this]
theorem begins_f (a b : List S52) (hl : a.length ≤ 2097152) (k : Nat) (hk : a.length < k) : ∃ r, cofferlaw05_begins.f k a b = some r ∧ (r = true ↔ b <+: a) := by
  unfold cofferlaw05_begins.f
  by_cases h : b.length ≤ a.length
  · rw [if_pos (by omega), if_pos (by omega), if_pos (by omega), Int.toNat_natCast, equal_f _ b (by rw [List.length_take]; omega) k (by rw [List.length_take]; omega)]
    refine ⟨_, rfl, ?_⟩
    rw [decide_eq_true_iff, List.prefix_iff_eq_take]
    exact ⟨fun h => h.symm, fun h => h.symm⟩
  · rw [if_neg (by omega)]
    refine ⟨_, rfl, ?_⟩
    constructor
    · intro h; cases h
    · intro hp; exact absurd hp.length_le h
theorem l_j1 (a b : List S52) (ha : ∀ p ∈ a, okP p) (hb : ∀ p ∈ b, okP p) (hl : a.length ≤ 2097152) (hA : (encL a).length ≤ 4398046511000) (hB : (encL b).length ≤ 4398046511000) (k : Nat) (hk : a.length + 1 < k) : cofferlaw05_TupleLimits.j1 k a b = some true := by
  obtain ⟨k, rfl⟩ : ∃ q, k = q + 1 := ⟨k - 1, by omega⟩
  have hW := write_ok b hb hB
  have hap : tx (encL b) ++ (⟨#[255]⟩ : ByteArray) = tx (encL b ++ [255]) := tx_append _ [255]
  obtain ⟨r, hr, hr2⟩ := begins_f a b hl k (by omega)
  simp only [cofferlaw05_TupleLimits.j1]
  rw [write_ok a ha hA, limits_ok b _ hW hB, hW]
  simp only [Option.bind_some]
  rw [if_pos trivial, if_pos trivial, if_pos trivial, if_pos trivial, if_pos (by rw [tx_size]; omega), hap, if_pos rfl, hr]
  simp only [Option.bind_some]
  rw [tx_size, tx_size, tx_tl, tx_tl, tx_tl, Int.toNat_natCast, tx_upto, tx_tl]
  by_cases hp : b <+: a
  · obtain rfl := hr2.2 hp
    have pre := prefix_enc hp
    obtain ⟨x, rfl⟩ := hp
    have e : encL (b ++ x) = encL b ++ encL x := encL_append b x
    have hle := pre.length_le
    rw [if_pos (by omega), if_pos (by omega), if_pos (by omega), if_pos (List.prefix_iff_eq_take.1 pre).symm, if_pos rfl, e, less_front, if_neg (by decide),
      less_behind _ _ (encL_head x (fun p hp => ha p (List.mem_append.2 (.inr hp)))), if_pos rfl]
  · have rf : r = false := by
      cases r
      · rfl
      · exact absurd (hr2.1 rfl) hp
    subst rf
    have npre : ¬ encL b <+: encL a := fun h => hp (enc_prefix b a hb ha h)
    have last : (if Op.bytesLess (encL a) (encL b) = true then some (!false) else if Op.bytesLess (encL a) (encL b ++ [255]) = true then some false else some (!false)) = some true := by
      cases h : Op.bytesLess (encL a) (encL b)
      · rw [if_neg (by decide), less_not _ _ npre h, if_neg (by decide)]; rfl
      · rfl
    by_cases hs : (encL b).length ≤ (encL a).length
    · rw [if_pos (by omega), if_pos (by omega), if_pos (by omega), if_neg (fun h => npre (List.prefix_iff_eq_take.2 h.symm)), if_neg (by decide)]
      exact last
    · rw [if_neg (by omega), if_neg (by decide)]
      exact last
theorem limits_law (l l' : List S58) (hl : l.length ≤ 1048576) (hl' : l'.length ≤ 1048576) (h : ∀ q ∈ l, i64 q.f2 ∧ q.f1.size ≤ 1048576) (h' : ∀ q ∈ l', i64 q.f2 ∧ q.f1.size ≤ 1048576) (n : Int) : ∃ k, cofferlaw05_TupleLimits.f k l l' n = some true := by
  have hE := encL_le l h
  have hm := okP_map l h
  have hml : (l.map mk).length = l.length := List.length_map ..
  have hpf := parts_f l (by omega)
  have hE' := encL_le l' h'
  have hm' := okP_map l' h'
  have hpf' := parts_f l' (by omega)
  generalize l.map mk = a at *
  generalize l'.map mk = b at *
  obtain ⟨K0, h0⟩ := head_f
  obtain ⟨k, hk⟩ : ∃ k, k = K0 + l.length + l'.length + 3 := ⟨_, rfl⟩
  have j0f : cofferlaw05_TupleLimits.j0 k n a b false = some true := by
    obtain ⟨k, rfl⟩ : ∃ q, k = q + 1 := ⟨k - 1, by omega⟩
    simp only [cofferlaw05_TupleLimits.j0]
    rw [if_neg (by decide)]
    exact l_j1 a b hm hm' (by omega) (by omega) (by omega) k (by omega)
  have j0t : 0 ≤ n → n ≤ (a.length : Int) → cofferlaw05_TupleLimits.j0 k n a b true = some true := by
    intro n0 n1
    obtain ⟨i, rfl⟩ := Int.eq_ofNat_of_zero_le n0
    obtain ⟨k, rfl⟩ : ∃ q, k = q + 1 := ⟨k - 1, by omega⟩
    have pre := (prefix_enc (List.take_prefix i a)).length_le
    simp only [cofferlaw05_TupleLimits.j0]
    rw [if_pos trivial]
    simp only [Option.bind_some]
    rw [if_pos n0, if_pos n1, Int.toNat_natCast, if_pos (by rw [List.length_take]; simp; omega)]
    exact l_j1 a (a.take i) hm (okP_take hm i) (by omega) (by omega) (by omega) k (by omega)
  refine ⟨k, ?_⟩
  unfold cofferlaw05_TupleLimits.f
  rw [h0 k (by omega), hpf k (by omega), hpf' k (by omega)]
  simp only [Option.bind_some]
  rw [if_pos trivial]
  by_cases n0 : n ≥ 0
  · rw [if_pos n0]
    by_cases n1 : n ≤ (a.length : Int)
    · rw [decide_eq_true n1]; exact j0t n0 n1
    · rw [decide_eq_false n1]; exact j0f
  · rw [if_neg n0]; exact j0f
theorem i64_wf' {n : Int} (h : (Lit.int .i64 n).wf = true) : i64 n := by
  simp [Lit.wf, Go.IntKind.min, Go.IntKind.max, Go.IntKind.bits, Go.IntKind.signed] at h
  unfold i64; omega
end Go.Proofs.Ytbohpjbcjnapfaa.TupM
namespace Go.Proofs.Ytbohpjbcjnapfaa.Pure
open Go.RowKit Go.Proofs.Ytbohpjbcjnapfaa.X Go.Proofs.YtbohpjbcjnapfaaW.PrintWords Go.Proofs.YtbohpjbcjnapfaaW.PrintLast
theorem TupleLimitsUpto : cofferlaw05_TupleLimits.PureU := by
  intro l0 l1 a2 h0 h1 h2
  exact TupM.limits_law l0 l1 h0.1 h1.1 (fun q hq => ⟨TupM.i64_wf' (h0.2 q hq).2.2, (h0.2 q hq).2.1⟩) (fun q hq => ⟨TupM.i64_wf' (h1.2 q hq).2.2, (h1.2 q hq).2.1⟩) a2

end Go.Proofs.Ytbohpjbcjnapfaa.Pure
