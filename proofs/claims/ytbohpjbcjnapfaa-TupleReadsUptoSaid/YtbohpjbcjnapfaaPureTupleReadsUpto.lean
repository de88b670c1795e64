import Derived.Test.YtbohpjbcjnapfaaStTupleReadsUpto
import Derived.Test.YtbohpjbcjnapfaaTupH
namespace Go.Proofs.Ytbohpjbcjnapfaa.Pure
set_option linter.unusedVariables false
set_option linter.unusedSimpArgs false
open Go.RowKit Go.Proofs.Ytbohpjbcjnapfaa.X Go.Proofs.YtbohpjbcjnapfaaW.PrintWords Go.Proofs.YtbohpjbcjnapfaaW.PrintLast

theorem psA_len : ∀ (n : Nat) (l : List UInt8) (ps : List S52), TupM.psA n l = some ps → ps.length ≤ l.length
  | 0, l, ps, h => by cases h
  | n + 1, l, ps, h => by
    simp only [TupM.psA] at h
    by_cases hl : l = []
    · rw [if_pos hl] at h
      obtain rfl := Option.some.inj h
      simp
    · rw [if_neg hl] at h
      obtain ⟨q, hq, h⟩ := Option.bind_eq_some_iff.1 h
      by_cases hc : encP q.1 ++ q.2 = l
      · rw [if_pos hc] at h
        obtain ⟨ps', h', rfl⟩ := Option.map_eq_some_iff.1 h
        have h1 := psA_len n q.2 ps' h'
        have h2 := (TupM.pt_some (p := q.1) (r := q.2) hq).2.1
        simp only [List.length_cons]; omega
      · rw [if_neg hc] at h; cases h
theorem TupleReadsUpto : cofferlaw05_TupleReads.PureU := by
  intro a0 ha
  obtain ⟨K0, h0⟩ := TupM.head_f
  obtain ⟨K1, h1⟩ := TupM.read_f a0.data.toList ha
  obtain ⟨K2, h2⟩ := TupM.rread_f a0.data.toList ha
  have hx : TupM.tx a0.data.toList = a0 := rfl
  rw [hx] at h1 h2
  cases hp : TupM.psA (a0.data.toList.length + 1) a0.data.toList with
  | none =>
    refine ⟨K0 + K1 + K2 + 1, ?_⟩
    unfold cofferlaw05_TupleReads.f
    rw [h0 _ (by omega), h1 _ (by omega), h2 _ (by omega), hp]
    simp only [Option.bind_some]
    rw [if_pos trivial, if_pos trivial, show cofferlaw05_same.f (K0 + K1 + K2 + 1) [] [] = some true from TupM.same_f [] (by simp) _ (by simp)]
    rfl
  | some ps =>
    have hl : ps.length ≤ 2097152 := by
      have h1 := psA_len _ _ _ hp
      have h2 : a0.data.toList.length ≤ 1048576 := ha
      omega
    refine ⟨K0 + K1 + K2 + ps.length + 1, ?_⟩
    unfold cofferlaw05_TupleReads.f
    rw [h0 _ (by omega), h1 _ (by omega), h2 _ (by omega), hp]
    simp only [Option.bind_some]
    rw [if_pos trivial, if_pos trivial, TupM.same_f ps hl _ (by omega)]
    rfl

end Go.Proofs.Ytbohpjbcjnapfaa.Pure
