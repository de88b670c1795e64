/- PageKeeps: of a sorted list: what is put is found with its value, what is deleted is not, all others are as they were; both lists are sorted. -/
import Derived.Test.YtffgodpmmipnkaaStPageKeeps
import Derived.Test.YtffgodpmmipnkaaPg
namespace Go.Proofs.Ytffgodpmmipnkaa.Pure
set_option linter.unusedVariables false
set_option linter.unusedSimpArgs false
open Go.RowKit Go.Proofs.Ytffgodpmmipnkaa.X Go.Proofs.Ytffgodpmmipnkaa.Pg Go.Proofs.YtffgodpmmipnkaaW.PrintWords Go.Proofs.YtffgodpmmipnkaaW.PrintLast

def val (l : List S37) (key : ByteArray) : ByteArray := match get l key with
  | some e => (⟨#[43]⟩ : ByteArray) ++ e.f1
  | none => ⟨#[]⟩
def Sz (l : List S37) : Prop := ∀ e ∈ l, e.f1.size ≤ 140737488351232
theorem value1_eq {l : List S37} (hs : Srt l) (hz : Sz l) (key : ByteArray) (hl : l.length ≤ 1000) (k : Nat) (hk : 1000 < k) : cofferlaw10_value1.f k l key = some (val l key) := by
  unfold cofferlaw10_value1.f val
  rw [find_eq hs key (by omega) k (by omega), Option.bind_some]
  simp only []
  cases h : isat l key
  · rw [if_neg (by decide)]
    unfold Pg.get
    rw [h]; rfl
  · have hlt := isat_lt h
    have hm := hz _ (List.getElem_mem hlt)
    rw [if_pos rfl, if_pos (by omega), if_pos (by omega), rd_at l _ hlt, if_pos (by omega)]
    unfold Pg.get
    rw [h, if_pos rfl, List.getElem?_eq_getElem hlt]
theorem keeps_l1 (x : ByteArray) {L A B : List S37} (hL : Srt L) (hA : Srt A) (hB : Srt B) (zA : Sz A) (zB : Sz B) (zL : Sz L) (nL : L.length ≤ 1000) (nA : A.length ≤ 1000) (nB : B.length ≤ 1000)
    (mA : ∀ e : S37, e.f0 ≠ x → (e ∈ L ↔ e ∈ A)) (mB : ∀ e : S37, e.f0 ≠ x → (e ∈ L ↔ e ∈ B)) (j : Nat) : ∀ (k i : Nat), i + j = L.length → j + 1001 < k → cofferlaw10_PageKeeps.l1 k x L A B (i : Int) = some true := by
  induction j with
  | zero =>
    intro k i h hk
    obtain ⟨k, rfl⟩ : ∃ q, k = q + 1 := ⟨k - 1, by omega⟩
    simp only [cofferlaw10_PageKeeps.l1]
    rw [if_neg (by omega)]
  | succ j ih =>
    intro k i h hk
    obtain ⟨k, rfl⟩ : ∃ q, k = q + 1 := ⟨k - 1, by omega⟩
    have hlt : i < L.length := by omega
    have hm : L[i] ∈ L := List.getElem_mem hlt
    have hz := zL _ hm
    simp only [cofferlaw10_PageKeeps.l1]
    rw [if_pos (by omega), if_pos (by omega), rd_at L i hlt, wn i (by omega)]
    by_cases hx : L[i].f0 = x
    · rw [if_pos (by rw [hx])]
      exact ih k (i + 1) (by omega) (by omega)
    · have gA : val A L[i].f0 = (⟨#[43]⟩ : ByteArray) ++ L[i].f1 := by
        unfold val; rw [get_of_mem hA ((mA _ hx).1 hm) rfl]
      have gB : val B L[i].f0 = (⟨#[43]⟩ : ByteArray) ++ L[i].f1 := by
        unfold val; rw [get_of_mem hB ((mB _ hx).1 hm) rfl]
      rw [if_neg (fun h => hx (toList_inj h)), value1_eq hA zA _ nA k (by omega), Option.bind_some, if_pos (by omega), gA, if_pos rfl, value1_eq hB zB _ nB k (by omega), Option.bind_some, gB, if_pos rfl]
      exact ih k (i + 1) (by omega) (by omega)
theorem rdOf_at (l : List ByteArray) (i : Nat) (h : i < l.length) : rdOf ByteArray.empty l (i : Int) = l[i] := by
  unfold rdOf
  rw [Int.toNat_natCast, List.getD_eq_getElem?_getD, List.getElem?_eq_getElem h]; rfl
theorem keeps_l0 (x : ByteArray) (os : List ByteArray) (ho : os.length ≤ 140737488351232) {L A B : List S37} (hL : Srt L) (hA : Srt A) (hB : Srt B) (zA : Sz A) (zB : Sz B) (zL : Sz L) (nL : L.length ≤ 1000) (nA : A.length ≤ 1000) (nB : B.length ≤ 1000)
    (mA : ∀ e : S37, e.f0 ≠ x → (e ∈ L ↔ e ∈ A)) (mB : ∀ e : S37, e.f0 ≠ x → (e ∈ L ↔ e ∈ B)) (j : Nat) : ∀ (k i : Nat), i + j = os.length → j + 5000 < k → cofferlaw10_PageKeeps.l0 k x os L A B (i : Int) = some true := by
  induction j with
  | zero =>
    intro k i h hk
    obtain ⟨k, rfl⟩ : ∃ q, k = q + 1 := ⟨k - 1, by omega⟩
    simp only [cofferlaw10_PageKeeps.l0]
    rw [if_neg (by omega)]
    exact keeps_l1 x hL hA hB zA zB zL nL nA nB mA mB L.length k 0 (by omega) (by omega)
  | succ j ih =>
    intro k i h hk
    obtain ⟨k, rfl⟩ : ∃ q, k = q + 1 := ⟨k - 1, by omega⟩
    have hlt : i < os.length := by omega
    simp only [cofferlaw10_PageKeeps.l0]
    rw [if_pos (by omega), if_pos (by omega), rdOf_at os i hlt, wn i (by omega)]
    by_cases hx : os[i] = x
    · rw [if_pos (by rw [hx])]
      exact ih k (i + 1) (by omega) (by omega)
    · have gA : val A os[i] = val L os[i] := by
        unfold val; rw [get_congr hA hL (fun e he => (mA e (by rw [he]; exact hx)).symm)]
      have gB : val B os[i] = val L os[i] := by
        unfold val; rw [get_congr hB hL (fun e he => (mB e (by rw [he]; exact hx)).symm)]
      rw [if_neg (fun h => hx (toList_inj h)), value1_eq hL zL _ nL k (by omega), Option.bind_some, value1_eq hA zA _ nA k (by omega), Option.bind_some, gA, if_pos rfl, Option.bind_some, value1_eq hB zB _ nB k (by omega), Option.bind_some, gB, if_pos rfl]
      exact ih k (i + 1) (by omega) (by omega)
theorem PageKeeps : cofferlaw10_PageKeeps.Pure := by
  intro l0 a1 a2 l3 hl0 _ ha2 hl3
  obtain ⟨K, hK⟩ : ∃ K, K = l3.length + 30000 := ⟨_, rfl⟩
  refine ⟨K, ?_⟩
  have hL := sort_srt l0
  have nL := sort_len l0
  have zL : Sz (sortL l0) := fun e he => (hl0.2 e (sort_mem _ _ he)).2
  generalize hLd : sortL l0 = L at *
  have hA := srt_put hL a1 a2
  have lA := put_len L a1 a2
  have iA := put_isat L a1 a2
  have fA := put_fnd L a1 a2
  have tA := put_at L a1 a2
  have dA := del_put L a1 a2
  have mA : ∀ e : S37, e.f0 ≠ a1 → (e ∈ L ↔ e ∈ putL L a1 a2) := by
    intro e he
    rw [mem_put hL]
    constructor
    · intro h; exact .inr ⟨h, he⟩
    · rintro (rfl | h)
      · exact absurd rfl he
      · exact h.1
  have zA : Sz (putL L a1 a2) := by
    intro e he
    rcases mem_put_any a1 a2 e he with rfl | h
    · exact ha2
    · exact zL e h
  have hB := srt_del hL a1
  have lB := del_len L a1
  have iB := del_isat hL a1
  have mB : ∀ e : S37, e.f0 ≠ a1 → (e ∈ L ↔ e ∈ delL L a1) := by
    intro e he
    rw [mem_del hL]
    exact ⟨fun h => ⟨h, he⟩, fun h => h.1⟩
  have zB : Sz (delL L a1) := fun e he => zL e ((mem_del hL a1 e).1 he).1
  have dB : delL (delL L a1) a1 = delL L a1 := del_not iB
  have dN : isat L a1 = false → delL L a1 = L := del_not
  have hn : (isat L a1).toNat ≤ 1 := Bool.toNat_le _
  have hlt : fnd L a1 < (putL L a1 a2).length := by have := isat_lt iA; omega
  have hget : (putL L a1 a2)[fnd L a1] = ⟨a1, a2⟩ := by
    rw [List.getElem?_eq_getElem hlt] at tA
    exact Option.some.inj tA
  unfold cofferlaw10_PageKeeps.f
  rw [first_true K (by omega), Option.bind_some, if_pos rfl, sorted_law_eq l0 (by omega) K (by omega), Option.bind_some, hLd, put_eq hL a1 a2 (by omega) K (by omega), Option.bind_some, del_eq hA a1 (by omega) K (by omega), dA, iA, Option.bind_some]
  simp only []
  rw [del_eq hB a1 (by omega) K (by omega), dB, iB, Option.bind_some]
  simp only []
  rw [find_eq hA a1 (by omega) K (by omega), iA, fA, Option.bind_some]
  simp only []
  obtain ⟨t1, r1, r2⟩ := rises_eq (putL L a1 a2) (by omega) K (by omega)
  obtain ⟨t2, r3, r4⟩ := rises_eq (delL L a1) (by omega) K (by omega)
  obtain rfl := r2.2 hA
  obtain rfl := r4.2 hB
  simp only [if_true]
  rw [if_pos (by omega), if_pos (by omega), rd_at _ _ hlt, hget]
  simp only [BEq.rfl, Bool.not_true, Bool.or_false, Bool.false_eq_true, if_false, if_true]
  rw [same_self _ (by omega) K (by omega), Option.bind_some, if_pos rfl, r1, Option.bind_some, if_pos rfl, r3, Option.bind_some, Bool.not_true]
  obtain ⟨k, rfl⟩ : ∃ q, K = q + 2 := ⟨K - 2, by omega⟩
  have fin : cofferlaw10_PageKeeps.j1 (k + 1) a1 l3 L (putL L a1 a2) (delL L a1) false = some true := by
    simp only [cofferlaw10_PageKeeps.j1]
    rw [if_neg (by decide)]
    exact keeps_l0 a1 l3 (by omega) hL hA hB zA zB zL (by omega) (by omega) (by omega) mA mB l3.length k 0 (by omega) (by omega)
  rw [cofferlaw10_PageKeeps.j0, if_neg (by decide), find_eq hL a1 (by omega) (k + 1) (by omega), Option.bind_some]
  simp only []
  rw [wn _ (by omega), if_pos (by omega)]
  cases hi : isat L a1
  · have e := dN hi
    rw [if_neg (by decide), e, same_self L (by omega) (k + 1) (by omega), Option.bind_some, Bool.not_true]
    rw [e] at fin
    exact fin
  · rw [hi, Bool.toNat_true] at lA lB
    have e2 : ((putL L a1 a2).length : Int) = (L.length : Int) := by omega
    rw [if_pos rfl, if_pos e2]
    exact fin
end Go.Proofs.Ytffgodpmmipnkaa.Pure
