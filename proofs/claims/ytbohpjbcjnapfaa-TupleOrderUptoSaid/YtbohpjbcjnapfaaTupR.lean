/- tuple.reads: walked by hand. -/
import Derived.Test.YtbohpjbcjnapfaaTupW
import Derived.Scope
namespace Go.Proofs.Ytbohpjbcjnapfaa.X
open Go.RowKit Go.Proofs.YtbohpjbcjnapfaaW.PrintWords Go.Proofs.YtbohpjbcjnapfaaW.PrintLast Go.Proofs.YtbohpjbcjnapfaaW.PrintMore
set_option linter.unusedVariables false
set_option linter.unusedSimpArgs false

/-- What groups begin with, and what stands behind them. -/
def rdB (s : ByteArray) (acc : List UInt8) : Option (List UInt8 × ByteArray) :=
  if h : s.size ≤ 8 then none else
    if (s[8]'(by omega)).toNat = 9 then rdB (s.extract 9 s.size) (acc ++ (s.extract 0 8).data.toList)
    else if (s[8]'(by omega)).toNat < 9 then some (acc ++ (s.extract 0 (s[8]'(by omega)).toNat).data.toList, s.extract 9 s.size) else none
termination_by s.size
decreasing_by rw [ByteArray.size_extract]; omega
def rdF (s : ByteArray) : ByteArray × ByteArray × Bool := match rdB s [] with
  | some q => (⟨q.1.toArray⟩, q.2, true)
  | none => (⟨#[]⟩, ⟨#[]⟩, false)
theorem rdF_none {s : ByteArray} (h : rdB s [] = none) : rdF s = (⟨#[]⟩, ⟨#[]⟩, false) := by unfold rdF; rw [h]
theorem rdF_some {s : ByteArray} {a : List UInt8} {r : ByteArray} (h : rdB s [] = some (a, r)) : rdF s = (⟨a.toArray⟩, r, true) := by unfold rdF; rw [h]
set_option maxHeartbeats 8000000 in
set_option maxRecDepth 100000 in
theorem reads_calls (s : ByteArray) (w : World) (hs : s.size ≤ 140737488355328) :
    Calls Try.prog 51 #[.string s] w fun e w' => e = .returned (.tuple #[.string (rdF s).1, .string (rdF s).2.1, .bool (rdF s).2.2]) ∧ Below w.heap.size w w' := by
  have LM := Aside0.mk hs
  go_enter Try.func51, Try.ntmps51
  go_wp2
  refine wp_scope_straight ?_
  go_wp2
  refine wp_label ?_
  go_wp2
  go_loopw [0, 6] (fun v x W => ∃ (s' : ByteArray) (acc : List UInt8) (c : Int), v = .string s' ∧ x = .int .u8 c ∧ BU w.heap.size w.heap.size acc W ∧ Below w.heap.size w W ∧ Aside0 (rdB s' acc = rdB s []) ∧ Aside0 (acc.length + s'.size ≤ s.size)) (fun v _ _ => match v with | .string x => x.size | _ => 0)
  case atStart => exact ⟨s, [], 0, rfl, rfl, bu_new w, below_alloc (Below.refl _ _) _, ⟨rfl⟩, ⟨by simp⟩⟩
  case round =>
    obtain ⟨s', acc, c, rfl, rfl, hb, hw, HE, HL⟩ := hrel
    have HB := Aside0.mk hb
    have HW := Aside0.mk hw
    clear hb hw
    by_cases h8 : s'.size ≤ 8
    · have hd : decide ((s'.size : Int) ≤ 8) = true := decide_eq_true (by omega)
      have HN : Aside0 (rdF s = (⟨#[]⟩, ⟨#[]⟩, false)) := ⟨rdF_none (by rw [← HE.out, rdB, dif_pos h8])⟩
      go_wp2
      rw [Exit.noGoto_ret]
      go_ret3
      exact ⟨by rw [HN.out]; rfl, HW.out⟩
    · have hd : decide ((s'.size : Int) ≤ 8) = false := decide_eq_false (by omega)
      have hlt : 8 < s'.size := by omega
      obtain ⟨k, hk⟩ : ∃ k : Nat, k = (s'[8]).toNat := ⟨_, rfl⟩
      have HS : Aside0 ((s'.extract 0 8).size = 8 ∧ (s'.extract 9 s'.size).size = s'.size - 9) := ⟨by rw [ByteArray.size_extract, ByteArray.size_extract]; omega⟩
      by_cases h9 : k = 9
      · have HN : Aside0 (rdB s' acc = rdB (s'.extract 9 s'.size) (acc ++ (s'.extract 0 8).data.toList)) := ⟨by conv => lhs; rw [rdB]
                                                                                                                rw [dif_neg h8, if_pos (by omega)]⟩
        have e9 : ((s'[8].toNat : Int) == 9) = true := by rw [← hk, h9]; rfl
        go_wp2_with (first | (go_at_call 45; (with_reducible refine (bu_str w.heap.size w.heap.size acc _ _ HB.out ?hl1 HW.out.size).mono ?_); (case hl1 => have := HS.out; have := HL.out; have := LM.out; omega); rintro e w1 ⟨rfl, h1, h2, h3⟩; have HB1 := Aside0.mk h1; have HW1 := Aside0.mk (HW.out.trans h2); clear h1 h2 h3))
        go_roundw
        case rel =>
          refine ⟨_, _, _, rfl, rfl, HB1.out, HW1.out, ⟨?_⟩, ⟨?_⟩⟩
          · rw [← HE.out, HN.out]
          · have := HS.out; have := HL.out
            rw [List.length_append, Array.length_toList]
            show acc.length + (s'.extract 0 8).size + (s'.extract 9 s'.size).size ≤ _
            omega
        case measure =>
          show (s'.extract 9 s'.size).size < s'.size
          have := HS.out; omega
      · have e9 : ((s'[8].toNat : Int) == 9) = false := by rw [← hk]; simp; omega
        by_cases hlt9 : k < 9
        · have HN : Aside0 (rdF s = (⟨(acc ++ (s'.extract 0 k).data.toList).toArray⟩, s'.extract 9 s'.size, true)) := ⟨rdF_some (by rw [← HE.out, rdB, dif_neg h8, if_neg (by omega), if_pos (by omega), ← hk])⟩
          have el : decide ((s'[8].toNat : Int) < 9) = true := decide_eq_true (by omega)
          have HX : Aside0 ((s'.extract 0 k).size = k) := ⟨by rw [ByteArray.size_extract]; omega⟩
          go_wp2_with (first
            | (go_at_call 45; (with_reducible refine (bu_str w.heap.size w.heap.size acc _ _ HB.out ?hl1 HW.out.size).mono ?_); (case hl1 => have := HX.out; have := HL.out; have := LM.out; rw [← hk]; omega); rintro e w1 ⟨rfl, h1, h2, h3⟩; have HB1 := Aside0.mk h1; have HW1 := Aside0.mk (HW.out.trans h2); clear h1 h2 h3)
            | (go_at_call 35; (with_reducible refine (bu_any _ _ _ _ HB1.out HW1.out.size).mono ?_); rintro e w2 ⟨rfl, h1⟩; have HW2 := Aside0.mk (HW1.out.trans h1); clear h1))
          rw [Exit.noGoto_ret]
          go_ret3
          exact ⟨by rw [HN.out, ext_take, hk]; rfl, HW2.out⟩
        · have HN : Aside0 (rdF s = (⟨#[]⟩, ⟨#[]⟩, false)) := ⟨rdF_none (by rw [← HE.out, rdB, dif_neg h8, if_neg (by omega), if_neg (by omega)])⟩
          have el : decide ((s'[8].toNat : Int) < 9) = false := decide_eq_false (by omega)
          go_wp2
          rw [Exit.noGoto_ret]
          go_ret3
          exact ⟨by rw [HN.out]; rfl, HW.out⟩
end Go.Proofs.Ytbohpjbcjnapfaa.X
