/- VersionWrites: Write of every version is the document's; what is lent stays, the spare room too; written over, it is written as it is then. No condition beside the row's own. -/
import Derived.Test.YtdhkcklgnnilfaaStVersionWrites
import Derived.Test.YtdhkcklgnnilfaaVerRefW
import Derived.Test.YtdhkcklgnnilfaaVerSame
import Derived.Test.YtdhkcklgnnilfaaKeptS
namespace Go.Proofs.Ytdhkcklgnnilfaa.Pure
set_option linter.unusedVariables false
set_option linter.unusedSimpArgs false
open Go.RowKit Go.Proofs.Ytdhkcklgnnilfaa.X Go.Proofs.Ytdhkcklgnnilfaa.Link Go.Proofs.YtdhkcklgnnilfaaW.PrintWords Go.Proofs.YtdhkcklgnnilfaaW.PrintLast

theorem first_true : cofferlaw13_first.f 40 = some true := by decide +kernel
theorem first_any (k : Nat) (hk : 40 ≤ k) : cofferlaw13_first.f k = some true := at_rounds (fun k => cofferlaw13_first.mono k) hk first_true
theorem bind_of {α β : Type} {x : Option α} {f : α → Option β} {v : α} {r : Option β} (h : x = some v) (h2 : f v = r) : x.bind f = r := by rw [h]; exact h2
theorem lent_eq (a : ByteArray) (q : Int) (m : Bool) (d : ByteArray) (l : List S31) (hl : l.length < 4398046511104) : cofferlaw13_lent.f a q m d l = some (a, q, m, d, l) := by
  unfold cofferlaw13_lent.f
  rw [if_pos (by simpa using hl)]
  simp only [Option.bind_some, List.nil_append]
  rw [if_pos (by simpa using hl), if_pos (by omega), if_pos (by simp; omega)]
  simp [List.take_left]
theorem kept_self (k : Nat) (a : ByteArray) (q : Int) (m : Bool) (d : ByteArray) (l : List S31) (hl : l.length < 4398046511104) (hk : l.length + 2 < k) : cofferlaw13_keptS.f k a q m d l a q m d l = some true := by
  have hw : wrap64 ((l.length : Int) + 1) = ((l.length + 1 : Nat) : Int) := by unfold wrap64; omega
  have ht : (l ++ [MARK]).take (l.length + 1) = l ++ [MARK] := List.take_of_length_le (by simp)
  have hr : rd_T31 (l ++ [MARK]) (l.length : Int) = MARK := by
    unfold rd_T31
    rw [Int.toNat_natCast]; simp
  unfold cofferlaw13_keptS.f
  rw [hw, if_pos (by omega), if_pos (by simp), Int.toNat_natCast, ht]
  refine bind_of (f := fun y198 => _) rfl ?_
  refine bind_of (same_self a q m d l (by omega) k hk) ?_
  rw [if_pos rfl, if_pos (by omega), if_pos (by simp; omega), hr]
  decide +kernel
def wr (a : ByteArray) (q : Int) (m : Bool) (d : ByteArray) (l : List S31) : ByteArray × Int := if errV a q m d l = 0 then (strOfNums (encV a q m d l), 0) else ((⟨#[]⟩ : ByteArray), errV a q m d l)
theorem l0_true (a : ByteArray) (q : Int) (m : Bool) (d : ByteArray) (M : Nat) (hM2 : M ≤ 140737488351232) (n : Nat) (hn : n < 4398046511104) (j : Nat) : ∀ (k i : Nat) (xs : List S31), xs.length = n → i + j = n → n + M + j + 100 < k → (∀ p ∈ xs, p.f0.size ≤ M) → (∀ t (h : t < xs.length), i ≤ t → xs[t].f1.size ≤ 140737488351232) →
    cofferlaw13_VersionWrites.l0 k (i : Int) a q m d xs = some true := by
  induction j with
  | zero =>
    intro k i xs hx h hk hM hV
    obtain ⟨k, rfl⟩ : ∃ q, k = q + 1 := ⟨k - 1, by omega⟩
    have e1 : version_Write.f k a q m d xs = some (wr a q m d xs) := write_eq _ _ _ _ _ (by omega) k (by omega)
    have e2 : cofferref13_Write.f k a q m d xs = some (wr a q m d xs) := ref_write_eq _ _ _ _ _ M hM hM2 k (by omega)
    rw [cofferlaw13_VersionWrites.l0, if_neg (by omega)]
    refine bind_of e1 ?_
    refine bind_of e2 ?_
    rw [if_pos rfl, if_pos rfl]
    exact bind_of (first_any k (by omega)) rfl
  | succ j ih =>
    intro k i xs hx h hk hM hV
    obtain ⟨k, rfl⟩ : ∃ q, k = q + 1 := ⟨k - 1, by omega⟩
    have hlt : i < xs.length := by omega
    have hw : wrap64 ((i : Int) + 1) = ((i + 1 : Nat) : Int) := by unfold wrap64; omega
    have hv := hV i hlt (Nat.le_refl _)
    rw [cofferlaw13_VersionWrites.l0, if_pos (by omega), hw, if_pos (by omega), rd_at xs i hlt, if_pos (by omega), Int.toNat_natCast]
    refine ih k (i + 1) _ (by rw [List.length_set]; exact hx) (by omega) (by omega) ?_ ?_
    · intro p hp
      rcases List.mem_or_eq_of_mem_set hp with hp | rfl
      · exact hM p hp
      · exact hM xs[i] (List.getElem_mem hlt)
    · intro t ht hi
      rw [List.getElem_set_ne (by omega)]
      exact hV t (by rw [List.length_set] at ht; exact ht) (by omega)
theorem VersionWrites : cofferlaw13_VersionWrites.Pure := by
  intro x hx
  obtain ⟨_, _, _, _, hl, hq⟩ := hx
  refine ⟨2 * x.f4.length + 140737488351232 + 300, ?_⟩
  generalize hk : 2 * x.f4.length + 140737488351232 + 300 = k
  have e1 : version_Write.f k x.f0 x.f1 x.f2 x.f3 x.f4 = some (wr x.f0 x.f1 x.f2 x.f3 x.f4) := write_eq _ _ _ _ _ (by omega) k (by omega)
  have e2 : cofferref13_Write.f k x.f0 x.f1 x.f2 x.f3 x.f4 = some (wr x.f0 x.f1 x.f2 x.f3 x.f4) := ref_write_eq _ _ _ _ _ 140737488351232 (fun p hp => (hq p hp).1) (by omega) k (by omega)
  unfold cofferlaw13_VersionWrites.f
  refine bind_of (lent_eq x.f0 x.f1 x.f2 x.f3 x.f4 (by omega)) ?_
  refine bind_of e1 ?_
  refine bind_of e1 ?_
  refine bind_of e2 ?_
  rw [if_pos rfl, if_pos rfl, if_pos rfl, if_pos rfl]
  refine bind_of (kept_self k x.f0 x.f1 x.f2 x.f3 x.f4 (by omega) (by omega)) ?_
  obtain ⟨k, rfl⟩ : ∃ q, k = q + 1 := ⟨k - 1, by omega⟩
  show cofferlaw13_VersionWrites.j0 (k + 1) false x.f0 x.f1 x.f2 x.f3 x.f4 = some true
  rw [cofferlaw13_VersionWrites.j0, if_neg (by decide)]
  exact l0_true x.f0 x.f1 x.f2 x.f3 140737488351232 (by omega) x.f4.length (by omega) x.f4.length k 0 x.f4 rfl (by omega) (by omega) (fun p hp => (hq p hp).1) (fun t h _ => (hq _ (List.getElem_mem h)).2)
end Go.Proofs.Ytdhkcklgnnilfaa.Pure
