import Derived.Test.YtbohpjbcjnapfaaStTupleWritesUpto
import Derived.Test.YtbohpjbcjnapfaaTupC
namespace Go.Proofs.Ytbohpjbcjnapfaa.TupM
set_option linter.unusedVariables false
set_option linter.unusedSimpArgs false
open Go.RowKit Go.Proofs.Ytbohpjbcjnapfaa.X Go.Proofs.YtbohpjbcjnapfaaW.PrintWords Go.Proofs.YtbohpjbcjnapfaaW.PrintLast

def M1 : S52 := ⟨77, tx [], 0⟩
def M2 : S52 := ⟨0, tx [109, 97, 114, 107], 0⟩
theorem own_l0 (l : List S58) (hl : l.length ≤ 1048576) : ∀ (d i k : Nat), i + d = l.length → d < k → cofferlaw05_own.l0 k l ((l.take i).map vc) (i : Int) = some (l.map vc, l.map vc ++ [M1, M2])
  | 0, i, k, e, hk => by
    obtain ⟨k, rfl⟩ : ∃ q, k = q + 1 := ⟨k - 1, by omega⟩
    have hm : (l.map vc).length = l.length := List.length_map ..
    simp only [cofferlaw05_own.l0]
    rw [if_neg (by omega), List.take_of_length_le (by omega)]
    simp only [Option.bind_some]
    rw [if_pos (by rw [hm]; simp; omega), if_pos (by rw [List.length_append, hm]; omega), ← hm, List.take_left']
    · rfl
    · rfl
  | d + 1, i, k, e, hk => by
    obtain ⟨k, rfl⟩ : ∃ q, k = q + 1 := ⟨k - 1, by omega⟩
    have hi : i < l.length := by omega
    have rest := own_l0 l hl d (i + 1) k (by omega) (by omega)
    rw [List.take_succ_eq_append_getElem hi, List.map_append, List.map_singleton] at rest
    simp only [cofferlaw05_own.l0]
    rw [if_pos (by omega), if_pos (by omega), rd58 l i hi, w64_succ i (by omega), if_pos (by rw [List.length_map, List.length_take]; omega)]
    exact rest
theorem own_f (l : List S58) (hl : l.length ≤ 1048576) (k : Nat) (hk : l.length < k) : cofferlaw05_own.f k l = some (l.map vc, l.map vc ++ [M1, M2]) := own_l0 l hl l.length 0 k (by omega) hk
theorem stays_f (l : List S58) (hl : l.length ≤ 1048576) (k : Nat) (hk : l.length < k) : cofferlaw05_stays.f k (l.map vc ++ [M1, M2]) l = some true := by
  have hm : (l.map vc).length = l.length := List.length_map ..
  have hL : (l.map vc ++ [M1, M2]).length = l.length + 2 := by rw [List.length_append, hm]; rfl
  have e1 : rd_T52 (l.map vc ++ [M1, M2]) (l.length : Int) = M1 := by
    rw [rd52 _ l.length (by omega), List.getElem_append_right (by omega)]
    simp only [hm, Nat.sub_self]; rfl
  have e2 : rd_T52 (l.map vc ++ [M1, M2]) ((l.length + 1 : Nat) : Int) = M2 := by
    rw [rd52 _ (l.length + 1) (by omega), List.getElem_append_right (by omega)]
    simp only [hm, Nat.add_sub_cancel_left]; rfl
  have w1 : wrap64 ((l.length : Int) + 2) = ((l.length + 2 : Nat) : Int) := by unfold wrap64; omega
  have w2 : wrap64 ((l.length : Int) + 1) = ((l.length + 1 : Nat) : Int) := by unfold wrap64; omega
  have hcv : (l.map vc).map cv = l := by
    rw [List.map_map]; exact List.map_id' l
  have hs : cofferlaw05_same.f k (l.map vc) l = some true := by
    have := same_f (l.map vc) (by omega) k (by omega)
    rwa [hcv] at this
  have z1 : M1.f1.toList = [] := tx_tl []
  have z2 : M2.f1.toList = [109, 97, 114, 107] := tx_tl _
  unfold cofferlaw05_stays.f
  rw [w1, w2, hL, e1, e2, z1, z2]
  clear w1 w2 e1 e2 z1 z2
  rw [if_pos rfl, if_pos (by omega), if_pos (by omega), if_neg (by decide), if_pos (by omega), if_pos (by omega), if_neg (by decide), if_pos (by omega), Int.toNat_natCast, ← hm, List.take_left' rfl, hs]
  rfl
theorem encV_all : ∀ (l : List S58), (∀ q ∈ l, q.f1.size ≤ 1048576) → (encL (l.map vc)).length ≤ 2097162 * l.length
  | [], _ => by simp [encL]
  | q :: l, h => by
    have ih := encV_all l (fun q hq => h q (by simp [hq]))
    have h1 := encV_le (vc q) (h q (by simp))
    have e : encL ((q :: l).map vc) = (if vld (vc q) = true then encP (vc q) else []) ++ encL (l.map vc) := by
      unfold encL; rw [List.map_cons, List.flatMap_cons]
    rw [e, List.length_append, List.length_cons]
    split
    · omega
    · simp only [List.length_nil]; omega
theorem limits_same (l : List S58) (hl : l.length ≤ 1048576) (hs : ∀ q ∈ l, q.f1.size ≤ 1048576) (k : Nat) (hr : cofferref05_Write.f k l = some (wrF (l.map vc))) : ∃ t, cofferref05_Limits.f k l = some t ∧ tuple_Limits.f (l.map vc) = some t := by
  have hE := encV_all l hs
  unfold cofferref05_Limits.f tuple_Limits.f
  rw [hr, write_f _ (by omega)]
  simp only [Option.bind_some]
  unfold wrF
  by_cases h : (l.map vc).all vld = true
  · rw [if_pos h]
    have hz : (⟨(encL (l.map vc)).toArray⟩ : ByteArray).size = (encL (l.map vc)).length := tx_size _
    simp only [if_true]
    rw [if_pos (by rw [hz]; omega)]
    exact ⟨_, rfl, rfl⟩
  · rw [if_neg h]
    exact ⟨_, rfl, rfl⟩
theorem writes_f (l m : List S58) (hl : l.length ≤ 1048576) (hm : m.length ≤ 1048576) (hs : ∀ q ∈ l, q.f1.size ≤ 1048576) (ht : ∀ q ∈ m, q.f1.size ≤ 1048576) : ∃ k, cofferlaw05_TupleWrites.f k l m = some true := by
  obtain ⟨K0, h0⟩ := head_f
  obtain ⟨K1, h1⟩ := rwrite_f l hl hs
  obtain ⟨k, hk⟩ : ∃ k, k = K0 + K1 + 2 * l.length + 2 * m.length + 2097170 := ⟨_, rfl⟩
  refine ⟨k, ?_⟩
  obtain ⟨t, t1, t2⟩ := limits_same l hl hs k (h1 k (by omega))
  have hE := encV_all l hs
  have la : (l.map vc).length = l.length := List.length_map ..
  have lb : (m.map vc).length = m.length := List.length_map ..
  have neg : cmpL (m.map vc) (l.map vc) = wrap64 (-cmpL (l.map vc) (m.map vc)) := by
    rw [cmpL_neg (l.map vc) (m.map vc)]
    rcases cmpL_three (l.map vc) (m.map vc) with h | h | h <;> rw [h] <;> unfold wrap64 <;> omega
  unfold cofferlaw05_TupleWrites.f
  rw [h0 k (by omega), h1 k (by omega), t1, rcompare_f l m hl hs k (by omega), own_f l hl k (by omega), own_f m hm k (by omega)]
  simp only [Option.bind_some]
  rw [if_pos trivial, write_f _ (by omega), t2]
  simp only [Option.bind_some]
  rw [if_pos trivial, if_pos trivial, if_pos trivial, if_pos trivial, if_pos trivial, compare_f _ _ (by omega) k (by omega), compare_f _ _ (by omega) k (by omega), stays_f l hl k (by omega), stays_f m hm k (by omega)]
  simp only [Option.bind_some]
  rw [if_pos trivial, if_pos neg, if_pos trivial]
end Go.Proofs.Ytbohpjbcjnapfaa.TupM
namespace Go.Proofs.Ytbohpjbcjnapfaa.Pure
open Go.RowKit Go.Proofs.Ytbohpjbcjnapfaa.X Go.Proofs.YtbohpjbcjnapfaaW.PrintWords Go.Proofs.YtbohpjbcjnapfaaW.PrintLast
theorem TupleWritesUpto : cofferlaw05_TupleWrites.PureU := by
  intro l0 l1 h0 h1
  exact TupM.writes_f l0 l1 h0.1 h1.1 (fun q hq => (h0.2 q hq).2.1) (fun q hq => (h1.2 q hq).2.1)

end Go.Proofs.Ytbohpjbcjnapfaa.Pure
