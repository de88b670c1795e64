import Derived.Test.YtbohpjbcjnapfaaStTupleApartUpto
import Derived.Test.YtbohpjbcjnapfaaTupB
namespace Go.Proofs.Ytbohpjbcjnapfaa.TupM
set_option linter.unusedVariables false
set_option linter.unusedSimpArgs false
open Go.RowKit Go.Proofs.Ytbohpjbcjnapfaa.X Go.Proofs.YtbohpjbcjnapfaaW.PrintWords Go.Proofs.YtbohpjbcjnapfaaW.PrintLast

/-- A part of a kind alone. -/
def kn (n : Int) : S52 := ⟨n, tx [], 0⟩
theorem kn0 (n : Int) : (kn n).f0 = n := rfl
def fill (m : List S52) (x : S52) (i : Nat) : List S52 := List.replicate i x ++ m.drop i
theorem fill_len (m : List S52) (x : S52) (i : Nat) (h : i ≤ m.length) : (fill m x i).length = m.length := by
  unfold fill; rw [List.length_append, List.length_replicate, List.length_drop]; omega
theorem fill_set (m : List S52) (x : S52) (i : Nat) (h : i < m.length) : (fill m x i).set i x = fill m x (i + 1) := by
  unfold fill
  rw [List.set_append_right _ _ (by rw [List.length_replicate]; exact Nat.le_refl _), List.length_replicate, Nat.sub_self, List.drop_eq_getElem_cons h, List.set_cons_zero, List.replicate_succ', List.append_assoc]; rfl
theorem fill_all (m : List S52) (x : S52) : fill m x m.length = List.replicate m.length x := by
  unfold fill; rw [List.drop_length, List.append_nil]
/-- A list that was marked, and grown. -/
def grown (n : Nat) (x y z : S52) (j : Nat) : List S52 := List.replicate n x ++ [y] ++ List.replicate j z
theorem grown_len (n : Nat) (x y z : S52) (j : Nat) : (grown n x y z j).length = n + 1 + j := by unfold grown; simp; omega
theorem grown_more (n : Nat) (x y z : S52) (j : Nat) : grown n x y z j ++ [z] = grown n x y z (j + 1) := by
  unfold grown; rw [List.append_assoc, ← List.replicate_succ']
theorem grown_x (n : Nat) (x y z : S52) (j i : Nat) (h : i < n) : rd_T52 (grown n x y z j) (i : Int) = x := by
  rw [rd52 _ i (by rw [grown_len]; omega)]
  unfold grown
  rw [List.getElem_append_left (by simp; omega), List.getElem_append_left (by simp; omega), List.getElem_replicate]
theorem grown_y (n : Nat) (x y z : S52) (j : Nat) : rd_T52 (grown n x y z j) (n : Int) = y := by
  rw [rd52 _ n (by rw [grown_len]; omega)]
  unfold grown
  rw [List.getElem_append_left (by simp), List.getElem_append_right (by simp)]; simp
theorem grown_z (n : Nat) (x y z : S52) (j i : Nat) (h0 : n < i) (h : i < n + 1 + j) : rd_T52 (grown n x y z j) (i : Int) = z := by
  rw [rd52 _ i (by rw [grown_len]; omega)]
  unfold grown
  rw [List.getElem_append_right (by simp; omega), List.getElem_replicate]
theorem a_l4 (m : List S52) (hl : m.length ≤ 1048576) : ∀ (d i k : Nat), i + d = 17 → 0 < i → m.length + d + 1 < k → cofferlaw05_TupleApart.l4 k m (grown m.length (kn (-1)) (kn (-3)) (kn (-5)) 16) (grown m.length (kn (-2)) (kn (-4)) (kn (-6)) 16) m 0 (i : Int) = some true
  | 0, i, k, e, h0, hk => by
    obtain ⟨k, rfl⟩ : ∃ q, k = q + 1 := ⟨k - 1, by omega⟩
    simp only [cofferlaw05_TupleApart.l4]
    rw [if_neg (by omega), grown_len, grown_len, grown_y, grown_y, if_pos (by omega), if_pos (by omega), if_pos (kn0 _), if_pos (by omega), if_pos (kn0 _), if_pos trivial, equal_f m m (by omega) k (by omega)]
    simp
  | d + 1, i, k, e, h0, hk => by
    obtain ⟨k, rfl⟩ : ∃ q, k = q + 1 := ⟨k - 1, by omega⟩
    have rest := a_l4 m hl d (i + 1) k (by omega) (by omega) (by omega)
    have e1 : wrap64 ((m.length : Int) + (i : Int)) = ((m.length + i : Nat) : Int) := by unfold wrap64; omega
    simp only [cofferlaw05_TupleApart.l4]
    rw [if_pos (by omega), e1, grown_len, grown_len, grown_z _ _ _ _ _ (m.length + i) (by omega) (by omega), grown_z _ _ _ _ _ (m.length + i) (by omega) (by omega), w64_succ i (by omega)]
    clear e1
    rw [if_pos (by omega), if_pos (by omega), if_pos (kn0 _), if_pos (by omega), if_pos (kn0 _)]
    exact rest
theorem a_l3 (m : List S52) (hl : m.length ≤ 1048576) : ∀ (d i k : Nat), i + d = m.length → m.length + d + 20 < k → cofferlaw05_TupleApart.l3 k m (grown m.length (kn (-1)) (kn (-3)) (kn (-5)) 16) (grown m.length (kn (-2)) (kn (-4)) (kn (-6)) 16) m 0 (i : Int) = some true
  | 0, i, k, e, hk => by
    obtain ⟨k, rfl⟩ : ∃ q, k = q + 1 := ⟨k - 1, by omega⟩
    simp only [cofferlaw05_TupleApart.l3]
    rw [if_neg (by omega)]
    exact a_l4 m hl 16 1 k (by omega) (by omega) (by omega)
  | d + 1, i, k, e, hk => by
    obtain ⟨k, rfl⟩ : ∃ q, k = q + 1 := ⟨k - 1, by omega⟩
    have rest := a_l3 m hl d (i + 1) k (by omega) (by omega)
    simp only [cofferlaw05_TupleApart.l3]
    rw [if_pos (by omega), if_pos (by omega), grown_len, grown_len, grown_x _ _ _ _ _ i (by omega), grown_x _ _ _ _ _ i (by omega), w64_succ i (by omega), if_pos (by omega), if_pos (kn0 _), if_pos (by omega), if_pos (kn0 _)]
    exact rest
theorem a_l2 (m : List S52) (hl : m.length ≤ 1048576) (s : ByteArray) (K : Nat) (hR : ∀ k, K ≤ k → tuple_Read.f k s = some (m, 0)) : ∀ (d j k : Nat), j + d = 16 → K + 2 * m.length + d + 30 < k → cofferlaw05_TupleApart.l2 k m s (grown m.length (kn (-1)) (kn (-3)) (kn (-5)) j) (grown m.length (kn (-2)) (kn (-4)) (kn (-6)) j) (j : Int) = some true
  | 0, j, k, e, hk => by
    obtain ⟨k, rfl⟩ : ∃ q, k = q + 1 := ⟨k - 1, by omega⟩
    obtain rfl : j = 16 := by omega
    simp only [cofferlaw05_TupleApart.l2]
    rw [if_neg (by omega), hR k (by omega)]
    simp only [Option.bind_some]
    exact a_l3 m hl m.length 0 k (by omega) (by omega)
  | d + 1, j, k, e, hk => by
    obtain ⟨k, rfl⟩ : ∃ q, k = q + 1 := ⟨k - 1, by omega⟩
    have rest := a_l2 m hl s K hR d (j + 1) k (by omega) (by omega)
    rw [← grown_more, ← grown_more] at rest
    simp only [cofferlaw05_TupleApart.l2]
    rw [if_pos (by omega), if_pos (by rw [grown_len]; omega), if_pos (by rw [grown_len]; omega), w64_succ j (by omega)]
    exact rest
theorem a_l1 (m : List S52) (hl : m.length ≤ 1048576) (s : ByteArray) (K : Nat) (hR : ∀ k, K ≤ k → tuple_Read.f k s = some (m, 0)) : ∀ (d i k : Nat), i + d = m.length → K + 2 * m.length + d + 50 < k → cofferlaw05_TupleApart.l1 k m s (List.replicate m.length (kn (-1))) (fill m (kn (-2)) i) (i : Int) = some true
  | 0, i, k, e, hk => by
    obtain ⟨k, rfl⟩ : ∃ q, k = q + 1 := ⟨k - 1, by omega⟩
    obtain rfl : i = m.length := by omega
    simp only [cofferlaw05_TupleApart.l1]
    rw [fill_len _ _ _ (by omega), if_neg (by omega), List.length_replicate, if_pos (by omega), if_pos (by omega), fill_all]
    have := a_l2 m hl s K hR 16 0 k (by omega) (by omega)
    unfold grown at this
    rw [List.replicate_zero, List.append_nil, List.replicate_zero, List.append_nil] at this
    exact this
  | d + 1, i, k, e, hk => by
    obtain ⟨k, rfl⟩ : ∃ q, k = q + 1 := ⟨k - 1, by omega⟩
    have rest := a_l1 m hl s K hR d (i + 1) k (by omega) (by omega)
    rw [← fill_set m _ i (by omega)] at rest
    simp only [cofferlaw05_TupleApart.l1]
    rw [fill_len _ _ _ (by omega), if_pos (by omega), if_pos (by omega), Int.toNat_natCast, w64_succ i (by omega)]
    exact rest
theorem a_l0 (m : List S52) (hl : m.length ≤ 1048576) (s : ByteArray) (K : Nat) (hR : ∀ k, K ≤ k → tuple_Read.f k s = some (m, 0)) : ∀ (d i k : Nat), i + d = m.length → K + 3 * m.length + d + 60 < k → cofferlaw05_TupleApart.l0 k m s (fill m (kn (-1)) i) m (i : Int) = some true
  | 0, i, k, e, hk => by
    obtain ⟨k, rfl⟩ : ∃ q, k = q + 1 := ⟨k - 1, by omega⟩
    obtain rfl : i = m.length := by omega
    simp only [cofferlaw05_TupleApart.l0]
    rw [fill_len _ _ _ (by omega), if_neg (by omega), equal_f m m (by omega) k (by omega), fill_all]
    simp only [Option.bind_some, decide_true]
    rw [if_pos trivial]
    have := a_l1 m hl s K hR m.length 0 k (by omega) (by omega)
    unfold fill at this
    rw [List.replicate_zero, List.nil_append, List.drop_zero] at this
    exact this
  | d + 1, i, k, e, hk => by
    obtain ⟨k, rfl⟩ : ∃ q, k = q + 1 := ⟨k - 1, by omega⟩
    have rest := a_l0 m hl s K hR d (i + 1) k (by omega) (by omega)
    rw [← fill_set m _ i (by omega)] at rest
    simp only [cofferlaw05_TupleApart.l0]
    rw [fill_len _ _ _ (by omega), if_pos (by omega), if_pos (by omega), Int.toNat_natCast, w64_succ i (by omega)]
    exact rest
theorem apart_f (l : List S58) (hl : l.length ≤ 1048576) (h : ∀ q ∈ l, i64 q.f2 ∧ q.f1.size ≤ 1048576) : ∃ k, cofferlaw05_TupleApart.f k l = some true := by
  have hE := encL_le l h
  have hm := okP_map l h
  have hge := encL_ge _ hm
  have hml : (l.map mk).length = l.length := List.length_map ..
  obtain ⟨K0, h0⟩ := head_f
  have hpf := parts_f l (by omega)
  generalize l.map mk = m at *
  obtain ⟨K1, h1⟩ := read_f (encL m) (by omega)
  have hR : ∀ k, K1 ≤ k → tuple_Read.f k (tx (encL m)) = some (m, 0) := by
    intro k hk
    rw [h1 k hk, psA_enc m _ hm (by omega)]
  obtain ⟨k, hk⟩ : ∃ k, k = K0 + K1 + 4 * l.length + 70 := ⟨_, rfl⟩
  have j0 : cofferlaw05_TupleApart.j0 k m (tx (encL m)) m m (!true) = some true := by
    obtain ⟨k, rfl⟩ : ∃ q, k = q + 1 := ⟨k - 1, by omega⟩
    simp only [cofferlaw05_TupleApart.j0]
    rw [if_neg (by decide)]
    have := a_l0 m (by omega) (tx (encL m)) K1 hR m.length 0 k (by omega) (by omega)
    unfold fill at this
    rw [List.replicate_zero, List.nil_append, List.drop_zero] at this
    exact this
  refine ⟨k, ?_⟩
  unfold cofferlaw05_TupleApart.f
  rw [h0 k (by omega), hpf k (by omega)]
  simp only [Option.bind_some]
  rw [if_pos trivial, write_ok m hm (by omega)]
  simp only [Option.bind_some]
  rw [hR k (by omega)]
  simp only [Option.bind_some]
  rw [if_pos trivial, if_pos trivial, if_pos trivial, equal_f m m (by omega) k (by omega)]
  simp only [Option.bind_some, decide_true]
  rw [if_pos trivial]
  exact j0
theorem i64_wf'' {n : Int} (h : (Lit.int .i64 n).wf = true) : i64 n := by
  simp [Lit.wf, Go.IntKind.min, Go.IntKind.max, Go.IntKind.bits, Go.IntKind.signed] at h
  unfold i64; omega
end Go.Proofs.Ytbohpjbcjnapfaa.TupM
namespace Go.Proofs.Ytbohpjbcjnapfaa.Pure
open Go.RowKit Go.Proofs.Ytbohpjbcjnapfaa.X Go.Proofs.YtbohpjbcjnapfaaW.PrintWords Go.Proofs.YtbohpjbcjnapfaaW.PrintLast
theorem TupleApartUpto : cofferlaw05_TupleApart.PureU := by
  intro l0 h0
  exact TupM.apart_f l0 h0.1 (fun q hq => ⟨TupM.i64_wf'' (h0.2 q hq).2.2, (h0.2 q hq).2.1⟩)

end Go.Proofs.Ytbohpjbcjnapfaa.Pure
