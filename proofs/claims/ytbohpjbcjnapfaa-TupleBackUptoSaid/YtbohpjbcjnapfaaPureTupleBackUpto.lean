import Derived.Test.YtbohpjbcjnapfaaStTupleBackUpto
import Derived.Test.YtbohpjbcjnapfaaTupB
namespace Go.Proofs.Ytbohpjbcjnapfaa.TupM
set_option linter.unusedVariables false
set_option linter.unusedSimpArgs false
open Go.RowKit Go.Proofs.Ytbohpjbcjnapfaa.X Go.Proofs.YtbohpjbcjnapfaaW.PrintWords Go.Proofs.YtbohpjbcjnapfaaW.PrintLast

theorem b_j4 (b : List UInt8) (hb : b.length ≤ 1048576) : ∃ K, ∀ k, K ≤ k → cofferlaw05_TupleBack.j4 k (tx b) = some true := by
  obtain ⟨K, hK⟩ := read_f b (by omega)
  refine ⟨K + 1, fun k hk => ?_⟩
  obtain ⟨k, rfl⟩ : ∃ q, k = q + 1 := ⟨k - 1, by omega⟩
  simp only [cofferlaw05_TupleBack.j4]
  rw [hK k (by omega)]
  cases hp : psA (b.length + 1) b with
  | none => rfl
  | some ps =>
    obtain ⟨h1, h2⟩ := psA_back _ _ _ hp
    simp only [Option.bind_some]
    rw [if_pos trivial, write_ok ps h2 (by rw [h1]; omega), h1]
    simp
theorem b_l0 (x2 : ByteArray) (m : List S52) (hm : ∀ p ∈ m, okP p) (hl : m.length ≤ 1048576) (hE : (encL m).length ≤ 4398046511000) (c : Nat) (hc : c ≤ (encL m).length) (K4 : Nat) (h4 : ∀ k, K4 ≤ k → cofferlaw05_TupleBack.j4 k x2 = some true) :
    ∀ (d i : Nat), i + d = m.length → ∀ k, K4 + d + 1 ≤ k → cofferlaw05_TupleBack.l0 k x2 m (tx (encL m)) (c : Int) (i : Int) = some true
  | 0, i, e, k, hk => by
    obtain ⟨k, rfl⟩ : ∃ q, k = q + 1 := ⟨k - 1, by omega⟩
    simp only [cofferlaw05_TupleBack.l0]
    rw [if_neg (by omega)]
    exact h4 k (by omega)
  | d + 1, i, e, k, hk => by
    obtain ⟨k, rfl⟩ : ∃ q, k = q + 1 := ⟨k - 1, by omega⟩
    have rest := b_l0 x2 m hm hl hE c hc K4 h4 d (i + 1) (by omega) k (by omega)
    have hpre := prefix_enc (List.take_prefix i m)
    have hle := hpre.length_le
    simp only [cofferlaw05_TupleBack.l0]
    rw [if_pos (by omega), if_pos (by omega), if_pos (by omega), Int.toNat_natCast, write_ok (m.take i) (okP_take hm i) (by omega), w64_succ i (by omega)]
    simp only [Option.bind_some]
    rw [if_pos trivial, tx_size, tx_size]
    by_cases h : (encL (m.take i)).length = c
    · rw [if_pos (by omega), if_pos (by omega), if_pos (by omega), if_pos (by
        rw [Int.toNat_natCast, tx_upto, tx_tl, tx_tl, ← h]
        exact (List.prefix_iff_eq_take.1 hpre).symm)]
      exact rest
    · rw [if_neg (by omega)]
      exact rest
theorem b_j1 (x2 : ByteArray) (m : List S52) (hm : ∀ p ∈ m, okP p) (hl : m.length ≤ 1048576) (hE : (encL m).length ≤ 4398046511000) (c : Nat) (hc : c < (encL m).length) (K4 : Nat) (h4 : ∀ k, K4 ≤ k → cofferlaw05_TupleBack.j4 k x2 = some true) :
    ∃ K, ∀ k, K ≤ k → cofferlaw05_TupleBack.j1 k x2 m (tx (encL m)) (c : Int) = some true := by
  have ht : ((encL m).take c).length = c := by rw [List.length_take]; omega
  obtain ⟨K1, h1⟩ := read_f ((encL m).take c) (by omega)
  have h2 : ∀ k, K4 + m.length + 2 ≤ k → cofferlaw05_TupleBack.j2 k x2 m (tx (encL m)) (c : Int) = some true := by
    intro k hk
    obtain ⟨k, rfl⟩ : ∃ q, k = q + 1 := ⟨k - 1, by omega⟩
    simp only [cofferlaw05_TupleBack.j2]
    exact b_l0 x2 m hm hl hE c (by omega) K4 h4 m.length 0 (by omega) k (by omega)
  refine ⟨K1 + K4 + m.length + 3, fun k hk => ?_⟩
  obtain ⟨k, rfl⟩ : ∃ q, k = q + 1 := ⟨k - 1, by omega⟩
  simp only [cofferlaw05_TupleBack.j1]
  rw [if_pos (by omega), if_pos (by rw [tx_size]; omega), Int.toNat_natCast, tx_upto, h1 k (by omega)]
  cases hp : psA (((encL m).take c).length + 1) ((encL m).take c) with
  | none =>
    simp only [Option.bind_some]
    rw [if_neg (by decide), if_pos trivial, if_pos (by simp)]
    exact h2 k (by omega)
  | some ps =>
    obtain ⟨e1, e2⟩ := psA_back _ _ _ hp
    have pre := enc_prefix ps m e2 hm (by rw [e1]; exact List.take_prefix _ _)
    have hlt : ps.length < m.length := by
      rcases Nat.lt_or_ge ps.length m.length with h | h
      · exact h
      · have : ps = m := pre.eq_of_length_le h
        rw [this] at e1
        rw [← e1] at ht; omega
    simp only [Option.bind_some]
    rw [if_pos trivial, if_neg (by omega), if_pos (by omega), if_pos (by omega), Int.toNat_natCast, ← List.prefix_iff_eq_take.1 pre, equal_f ps ps (by omega) k (by omega)]
    simp only [Option.bind_some, decide_true]
    rw [if_pos trivial]
    exact h2 k (by omega)
theorem back_f (l : List S58) (hl : l.length ≤ 1048576) (h : ∀ q ∈ l, i64 q.f2 ∧ q.f1.size ≤ 1048576) (a : Int) (b : List UInt8) (hb : b.length ≤ 1048576) : ∃ k, cofferlaw05_TupleBack.f k l a (tx b) = some true := by
  have hE := encL_le l h
  have hm := okP_map l h
  have hge := encL_ge _ hm
  have hml : (l.map mk).length = l.length := List.length_map ..
  obtain ⟨K0, h0⟩ := head_f
  obtain ⟨K4, h4⟩ := b_j4 b hb
  have hpf := parts_f l (by omega)
  generalize l.map mk = m at *
  obtain ⟨K1, h1⟩ := read_f (encL m) (by omega)
  have key : ∃ K, ∀ k, K ≤ k → cofferlaw05_TupleBack.j0 k a (tx b) m (tx (encL m)) (!true) = some true := by
    by_cases he : encL m = []
    · refine ⟨K4 + 1, fun k hk => ?_⟩
      obtain ⟨k, rfl⟩ : ∃ q, k = q + 1 := ⟨k - 1, by omega⟩
      simp only [cofferlaw05_TupleBack.j0]
      rw [if_neg (by simp), if_pos (by rw [tx_tl]; exact he)]
      exact h4 k (by omega)
    · have hpos : 0 < (encL m).length := List.length_pos_iff.2 he
      have hlt := Int.tmod_lt_of_pos a (b := ((encL m).length : Int)) (by omega)
      have hgt := Int.lt_tmod_of_pos a (b := ((encL m).length : Int)) (by omega)
      by_cases hn : Int.tmod a ((encL m).length : Int) < 0
      · obtain ⟨c, hc⟩ := Int.eq_ofNat_of_zero_le (show 0 ≤ -(Int.tmod a ((encL m).length : Int)) by omega)
        obtain ⟨K, hK⟩ := b_j1 (tx b) m hm (by omega) (by omega) c (by omega) K4 h4
        refine ⟨K + 1, fun k hk => ?_⟩
        obtain ⟨k, rfl⟩ : ∃ q, k = q + 1 := ⟨k - 1, by omega⟩
        simp only [cofferlaw05_TupleBack.j0]
        rw [if_neg (by simp), if_neg (by rw [tx_tl]; exact he), tx_size, if_neg (by omega), if_pos hn, show wrap64 (-(Int.tmod a ((encL m).length : Int))) = (c : Int) by rw [hc]; unfold wrap64; omega]
        exact hK k (by omega)
      · obtain ⟨c, hc⟩ := Int.eq_ofNat_of_zero_le (show 0 ≤ Int.tmod a ((encL m).length : Int) by omega)
        obtain ⟨K, hK⟩ := b_j1 (tx b) m hm (by omega) (by omega) c (by omega) K4 h4
        refine ⟨K + 1, fun k hk => ?_⟩
        obtain ⟨k, rfl⟩ : ∃ q, k = q + 1 := ⟨k - 1, by omega⟩
        simp only [cofferlaw05_TupleBack.j0]
        rw [if_neg (by simp), if_neg (by rw [tx_tl]; exact he), tx_size, if_neg (by omega), if_neg hn, hc]
        exact hK k (by omega)
  obtain ⟨K, hK⟩ := key
  obtain ⟨kk, hkk⟩ : ∃ kk, kk = K0 + K1 + K + l.length + 1 := ⟨_, rfl⟩
  refine ⟨kk, ?_⟩
  unfold cofferlaw05_TupleBack.f
  rw [h0 kk (by omega), hpf kk (by omega)]
  simp only [Option.bind_some]
  rw [if_pos trivial, write_ok m hm (by omega)]
  simp only [Option.bind_some]
  rw [h1 kk (by omega), psA_enc m _ hm (by omega)]
  simp only [Option.bind_some]
  rw [if_pos trivial, if_pos trivial, equal_f m m (by omega) kk (by omega)]
  simp only [Option.bind_some]
  exact hK kk (by omega)
theorem i64_wf {n : Int} (h : (Lit.int .i64 n).wf = true) : i64 n := by
  simp [Lit.wf, Go.IntKind.min, Go.IntKind.max, Go.IntKind.bits, Go.IntKind.signed] at h
  unfold i64; omega
end Go.Proofs.Ytbohpjbcjnapfaa.TupM
namespace Go.Proofs.Ytbohpjbcjnapfaa.Pure
open Go.RowKit Go.Proofs.Ytbohpjbcjnapfaa.X Go.Proofs.YtbohpjbcjnapfaaW.PrintWords Go.Proofs.YtbohpjbcjnapfaaW.PrintLast
theorem TupleBackUpto : cofferlaw05_TupleBack.PureU := by
  intro l0 a1 a2 h0 h1 h2
  exact TupM.back_f l0 h0.1 (fun q hq => ⟨TupM.i64_wf (h0.2 q hq).2.2, (h0.2 q hq).2.1⟩) a1 a2.data.toList h2

end Go.Proofs.Ytbohpjbcjnapfaa.Pure
