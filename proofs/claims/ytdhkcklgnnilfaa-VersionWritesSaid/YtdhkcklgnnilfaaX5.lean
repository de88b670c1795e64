-- By a program of this session (wip/xprint.py over the kit's print).
import Derived.Test.YtdhkcklgnnilfaaX0
namespace Go.Proofs.Ytdhkcklgnnilfaa.X
open Go.RowKit Go.Proofs.YtdhkcklgnnilfaaW.PrintWords Go.Proofs.YtdhkcklgnnilfaaW.PrintLast Go.Proofs.YtdhkcklgnnilfaaW.PrintMore
attribute [local go_sem] Go.Proofs.Ytdhkcklgnnilfaa.Z.leq_string Go.Proofs.Ytdhkcklgnnilfaa.Z.gtr_string Go.Proofs.Ytdhkcklgnnilfaa.Z.geq_string   -- for this text's walks alone
set_option linter.unusedVariables false
set_option linter.unusedSimpArgs false

/-! ### names_small: function 31 -/
def nbyte (c : Int) : Bool := (decide (97 ≤ c) && decide (c ≤ 122)) || (decide (48 ≤ c) && decide (c ≤ 57)) || decide (c = 45)
def nfrom (s : ByteArray) : Nat → Nat → Bool
  | 0, _ => true
  | d + 1, i => nbyte (bt s i) && nfrom s d (i + 1)
def names_small.f (a0 : ByteArray) (a1 : Int) : Option Bool := some (nfrom a0 a0.size 0 && !(a0.toList.isEmpty) && decide ((a0.size : Int) ≤ a1))
set_option maxHeartbeats 4000000 in
theorem names_small.calls (a0 : ByteArray) (a1 : Int) (r : Bool) (w : World) (h : names_small.f a0 a1 = some r) :
    Calls Try.prog 31 #[.string a0, .int .i64 a1] w fun e w' => e = .returned (.bool r) ∧ Below w.heap.size w w' := by
  obtain rfl := Option.some.inj h
  clear h
  go_enter Try.func31, Try.ntmps31
  go_wp2
  go_loopw [] (fun w' => ∃ pos d : Nat, w' = w.iter a0 pos ∧ pos + d = a0.size ∧ Aside0 (nfrom a0 d pos = nfrom a0 a0.size 0)) (fun w' => a0.size - w'.iterPos w.heap.size)
  case atStart => exact ⟨0, a0.size, rfl, by omega, ⟨rfl⟩⟩
  case round =>
    obtain ⟨pos, d, rfl, hd, HN⟩ := hrel
    by_cases hp : pos < a0.size
    · obtain ⟨d, rfl⟩ : ∃ d', d = d' + 1 := ⟨d - 1, by omega⟩
      have hb := bt_at a0 pos (by simpa using hp)
      have hb2 : ((a0[pos]'hp).toNat : Int) = bt a0 pos := hb
      have hn : nfrom a0 (d + 1) pos = (nbyte (bt a0 pos) && nfrom a0 d (pos + 1)) := rfl
      rw [← hb2] at hn
      clear hb hb2
      by_cases ha : (a0[pos]'hp).toNat < 128
      · have hnx : ∀ ty, (Instr.next (.pointer (some ⟨w.heap.size, 0, none⟩)) true ty).run Try.prog (w.iter a0 pos) = _ := fun ty => run_next_ascii w a0 pos ty hp ha
        by_cases hok : nbyte ((a0[pos]'hp).toNat : Int) = true
        · rw [hok, Bool.true_and] at hn
          have HN2 := Aside0.mk (hn.symm.trans HN.out)
          clear hn HN
          unfold nbyte at hok
          simp only [Bool.or_eq_true, Bool.and_eq_true, decide_eq_true_eq] at hok
          generalize ((a0[pos]'hp).toNat : Int) = c at *
          rcases hok with (⟨h1, h2⟩ | ⟨h1, h2⟩) | h1
          · go_wp2
            go_roundw
            case rel => exact ⟨pos + 1, d, rfl, by omega, HN2⟩
            case measure => simp; omega
          · go_wp2
            go_roundw
            case rel => exact ⟨pos + 1, d, rfl, by omega, HN2⟩
            case measure => simp; omega
          · subst h1
            go_wp2
            go_roundw
            case rel => exact ⟨pos + 1, d, rfl, by omega, HN2⟩
            case measure => simp; omega
        · replace hok : nbyte ((a0[pos]'hp).toNat : Int) = false := by simpa using hok
          rw [hok, Bool.false_and] at hn
          have HF := Aside0.mk (hn.symm.trans HN.out)
          clear hn HN
          unfold nbyte at hok
          simp only [Bool.or_eq_false_iff, Bool.and_eq_false_iff, decide_eq_false_iff_not] at hok
          obtain ⟨⟨g1, g2⟩, g3⟩ := hok
          have hcase : ((a0[pos]'hp).toNat : Int) < 48 ∨ (57 < ((a0[pos]'hp).toNat : Int) ∧ ((a0[pos]'hp).toNat : Int) < 97) ∨ 122 < ((a0[pos]'hp).toNat : Int) := by omega
          have hpos : 0 ≤ ((a0[pos]'hp).toNat : Int) := by omega
          generalize ((a0[pos]'hp).toNat : Int) = c at *
          have g3' : (c != 45) = true := by simpa using g3
          clear g1 g2
          rcases hcase with h1 | ⟨h1, h2⟩ | h1
          all_goals
            go_wp2
            go_ret
            exact ⟨by rw [← HF.out]; rfl, (Below.refl _ _).alloc (Nat.le_refl _) _⟩
      · have hhi := decode_high a0 pos hp (by omega)
        have hnx : ∀ ty, (Instr.next (.pointer (some ⟨w.heap.size, 0, none⟩)) true ty).run Try.prog (w.iter a0 pos) = _ := fun ty => run_next_any w a0 pos ty hp
        have hok : nbyte ((a0[pos]'hp).toNat : Int) = false := by
          unfold nbyte
          simp only [Bool.or_eq_false_iff, Bool.and_eq_false_iff, decide_eq_false_iff_not]
          omega
        rw [hok, Bool.false_and] at hn
        have HF := Aside0.mk (hn.symm.trans HN.out)
        clear hn HN hok
        have h1 : 122 < ((Utf8.decode a0 pos).1 : Int) := by omega
        have g3' : (((Utf8.decode a0 pos).1 : Int) != 45) = true := by simp; omega
        have hpos : 0 ≤ ((Utf8.decode a0 pos).1 : Int) := by omega
        generalize ((Utf8.decode a0 pos).1 : Int) = c at *
        go_wp2
        go_ret
        exact ⟨by rw [← HF.out]; rfl, (Below.refl _ _).alloc (Nat.le_refl _) _⟩
    · have hnx : ∀ ty, (Instr.next (.pointer (some ⟨w.heap.size, 0, none⟩)) true ty).run Try.prog (w.iter a0 pos) = _ := fun ty => run_next_end w a0 pos ty hp
      obtain rfl : d = 0 := by omega
      have HT := Aside0.mk (show nfrom a0 a0.size 0 = true from HN.out.symm)
      by_cases he : a0.toList = []
      · have he1 : (a0.toList == ([] : List UInt8)) = true := by simp [he]
        have he2 : (a0.toList != ([] : List UInt8)) = false := by simp [he]
        have he3 : a0.toList.isEmpty = true := by simp [he]
        have HE := Aside0.mk he3
        go_wp2
        go_ret
        exact ⟨by rw [HT.out, HE.out]; rfl, (Below.refl _ _).alloc (Nat.le_refl _) _⟩
      · have he1 : (a0.toList == ([] : List UInt8)) = false := by simp [he]
        have he2 : (a0.toList != ([] : List UInt8)) = true := by simp [he]
        have he3 : a0.toList.isEmpty = false := by simp [he]
        have HE := Aside0.mk he3
        go_wp2
        go_ret
        exact ⟨by rw [HT.out, HE.out]; rfl, (Below.refl _ _).alloc (Nat.le_refl _) _⟩

end Go.Proofs.Ytdhkcklgnnilfaa.X
