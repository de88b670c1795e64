-- By a program of this session (wip/xprint.py over the kit's print).
import Derived.Test.YtgdcklkdigdegaaX0
import Derived.Test.YtgdcklkdigdegaaX3
import Derived.Test.YtgdcklkdigdegaaX4
namespace Go.Proofs.Ytgdcklkdigdegaa.X
open Go.RowKit Go.Proofs.YtgdcklkdigdegaaW.PrintWords Go.Proofs.YtgdcklkdigdegaaW.PrintLast Go.Proofs.YtgdcklkdigdegaaW.PrintMore
attribute [local go_sem] Go.Proofs.Ytgdcklkdigdegaa.Z.leq_string Go.Proofs.Ytgdcklkdigdegaa.Z.gtr_string Go.Proofs.Ytgdcklkdigdegaa.Z.geq_string   -- for this text's walks alone
set_option linter.unusedVariables false
set_option linter.unusedSimpArgs false

/-! ### cofferlaw01_SumTells: function 5 -/
/-- A text's bytes in a block of their own, as []byte(s) lays them: xs stand at its beginning. -/
def BRow (W : World) (g n : Nat) (xs : List Int) : Prop := xs.length = n ∧ ∃ (cs : Array Value) (m : Nat), W.heap[g]? = some (.cells cs 5 (m, m + 1)) ∧ n ≤ m ∧ cs.size = m ∧ ∀ j, j < n → cs[j]? = some (.int .u8 (xs.getD j 0))
theorem BRow.cell {W : World} {g n : Nat} {xs : List Int} (h : BRow W g n xs) (j : Nat) (hj : j < n) : W.cell? ⟨g, j, none⟩ = some (.int .u8 (xs.getD j 0)) := by
  obtain ⟨_, cs, m, hg, _, _, hc⟩ := h
  rw [cell_of_row W g j cs 5 _ hg]; exact hc j hj
theorem BRow.frozen {W : World} {g n : Nat} {xs : List Int} (h : BRow W g n xs) (j : Nat) (hj : j < n) : W.frozen? ⟨g, j, none⟩ = false := by
  obtain ⟨_, cs, m, hg, hm, _, _⟩ := h
  simp only [World.frozen?, hg]
  simp; omega
theorem BRow.set {W : World} {g n : Nat} {xs : List Int} (h : BRow W g n xs) (j : Nat) (hj : j < n) (v : Int) : BRow (W.setCell ⟨g, j, none⟩ (.int .u8 v)) g n (xs.set j v) := by
  obtain ⟨hl, cs, m, hg, hm, hs, hc⟩ := h
  refine ⟨by rw [List.length_set]; exact hl, cs.setIfInBounds j (.int .u8 v), m, ?_, hm, by simp [hs], ?_⟩
  · simp [World.setCell, Array.getElem?_modify, hg]
  · intro i hi
    by_cases e : j = i
    · subst e
      rw [Array.getElem?_setIfInBounds_self_of_lt (by omega)]
      simp [List.getD_eq_getElem?_getD, List.getElem?_set_self (show j < xs.length by omega)]
    · rw [Array.getElem?_setIfInBounds_ne e, hc i hi]
      simp [List.getD_eq_getElem?_getD, List.getElem?_set_ne e]
theorem BRow.start (w : World) (s : ByteArray) : BRow (Lib.bytesWorld w 5 s) w.heap.size s.size (bytesOf s) := by
  refine ⟨bytesOf_length s, Lib.bytesCells w 5 s, _, Lib.bytesWorld_at_new w 5 s, ?_, rfl, ?_⟩
  · simp [Lib.bytesCells]
  · intro j hj
    simp [Lib.bytesCells, Array.getElem?_append, hj, bytesOf, List.getD_eq_getElem?_getD]
theorem BRow.reads {W : World} {g n : Nat} {xs : List Int} (h : BRow W g n xs) (hn : n ≤ 9223372036854775807) : ReadsInt W .u8 (some ⟨g, 0, none⟩) n xs := by
  refine ⟨h.1, hn, fun _ => ⟨_, rfl, fun j hj => ?_⟩⟩
  have := h.cell j hj
  rw [add_plain]
  exact this
theorem BRow.drewN {W : World} {g n : Nat} {xs : List Int} (h : BRow W g n xs) (q : Nat) : BRow (W.drewN q) g n xs := by
  obtain ⟨hl, cs, m, hg, r⟩ := h
  exact ⟨hl, cs, m, by simpa using hg, r⟩
/-- The byte that is laid over place T + k. -/
def xk (b : Int) (k : Nat) : Int := b / 2 ^ (8 * k) % 256
/-- The bytes behind k rounds. -/
def xsT (s : ByteArray) (T : Nat) (b : Int) : Nat → List Int
  | 0 => bytesOf s
  | k + 1 => (xsT s T b k).set (T + k) (Go.bits .xor .u8 ((xsT s T b k).getD (T + k) 0) (xk b k))
def chg (b : Int) : Nat → Bool
  | 0 => false
  | k + 1 => chg b k || xk b k != 0
/-- Where the bytes begin. -/
def tel (a0 : ByteArray) (a1 : Int) : Nat := (wrap64 ((IntKind.u64.wrap a1).tmod (a0.size : Int))).toNat
theorem tel_lt (a0 : ByteArray) (a1 : Int) (h : a0.size ≠ 0) (hs : a0.size ≤ 140737488355328) : wrap64 ((IntKind.u64.wrap a1).tmod (a0.size : Int)) = (tel a0 a1 : Int) ∧ tel a0 a1 < a0.size := by
  have h1 : 0 ≤ IntKind.u64.wrap a1 := by show 0 ≤ a1 % 18446744073709551616; omega
  have e : (IntKind.u64.wrap a1).tmod (a0.size : Int) = (IntKind.u64.wrap a1) % (a0.size : Int) := Int.tmod_eq_emod_of_nonneg h1
  have h2 := Int.emod_nonneg (IntKind.u64.wrap a1) (show (a0.size : Int) ≠ 0 by omega)
  have h3 := Int.emod_lt_of_pos (IntKind.u64.wrap a1) (show 0 < (a0.size : Int) by omega)
  unfold tel
  rw [e]
  generalize IntKind.u64.wrap a1 % (a0.size : Int) = z at *
  have hw : wrap64 z = z := by unfold wrap64; omega
  rw [hw]; omega
/-- How many rounds there are. -/
def rnd (a0 : ByteArray) (a1 : Int) : Nat := min 8 (a0.size - tel a0 a1)
def cofferlaw01_SumTells.f (a0 : ByteArray) (a1 : Int) (a2 : Int) : Option (Bool) := (cofferlaw01_first.f).bind fun t => (if t = true then (if a0.size = 0 then some true else (if a0.size ≤ 140737488355328 then ((sum_Of.f (strOfNums (xsT a0 (tel a0 a1) a2 (rnd a0 a1)))).bind fun u => ((sum_Of.f a0).bind fun v => some ((u != v) == chg a2 (rnd a0 a1)))) else none)) else (some false))
set_option maxHeartbeats 4000000 in
set_option maxRecDepth 100000 in
theorem cofferlaw01_SumTells.calls (a0 : ByteArray) (a1 : Int) (a2 : Int) (r : Bool) (w : World) (h : cofferlaw01_SumTells.f a0 a1 a2 = some r) :
    Calls Try.prog 5 #[.string a0, .int .i64 a1, .int .u64 a2] w fun e w' => e = .returned (.bool r) ∧ Below w.heap.size w w' := by
  have kb := fun W => print_bytes (P := Try.prog) 9 29 5 Try.underlying9 Try.underlying29 Try.underlying5 a0 W
  unfold cofferlaw01_SumTells.f at h
  obtain ⟨t, hf, h⟩ := Option.bind_eq_some_iff.mp h
  have HF := Aside0.mk hf
  clear hf
  cases t with
  | false =>
    rw [if_neg (by decide)] at h
    obtain rfl := Option.some.inj h
    clear h kb
    go_enter Try.func5, Try.ntmps5
    go_wp2_with (first | (go_at_call 8; refine (cofferlaw01_first.calls false _ HF.out).mono ?_; rintro e w1 ⟨rfl, hb⟩))
    go_ret
    exact ⟨rfl, hb⟩
  | true =>
  rw [if_pos rfl] at h
  by_cases hz : a0.size = 0
  · rw [if_pos hz] at h
    obtain rfl := Option.some.inj h
    have e0 : a0.toList = ([] : List UInt8) := by rw [← List.length_eq_zero_iff, Go.ByteArray.toList_eq]; simpa using hz
    have e1 : (a0.toList == ([] : List UInt8)) = true := by rw [e0]; rfl
    clear h kb hz
    go_enter Try.func5, Try.ntmps5
    go_wp2_with (first | (go_at_call 8; refine (cofferlaw01_first.calls true _ HF.out).mono ?_; rintro e w1 ⟨rfl, hb⟩))
    go_ret
    exact ⟨rfl, hb⟩
  rw [if_neg hz] at h
  by_cases h0 : a0.size ≤ 140737488355328
  case neg => rw [if_neg h0] at h; cases h
  rw [if_pos h0] at h
  obtain ⟨u, hu, h⟩ := Option.bind_eq_some_iff.mp h
  obtain ⟨v, hv, h⟩ := Option.bind_eq_some_iff.mp h
  obtain rfl := Option.some.inj h
  clear h
  obtain ⟨hT, hTn⟩ := tel_lt a0 a1 hz h0
  have HU := Aside0.mk hu
  have HV := Aside0.mk hv
  have HRND := Aside0.mk (show rnd a0 a1 = min 8 (a0.size - tel a0 a1) from rfl)
  clear hu hv
  generalize rnd a0 a1 = K at *
  have hne : (a0.toList == ([] : List UInt8)) = false := by
    rw [beq_eq_false_iff_ne]; intro e; apply hz
    rw [← List.length_eq_zero_iff, Go.ByteArray.toList_eq] at e; simpa using e
  have HT := Aside0.mk hT
  clear hT
  go_enter Try.func5, Try.ntmps5
  go_wp2_with (first | (go_at_call 8; refine (cofferlaw01_first.calls true _ HF.out).mono ?_; rintro e w1 ⟨rfl, hb⟩))
  have HR := Aside0.mk (BRow.start w1 a0)
  have HB := Aside0.mk (bytes_below hb hb.size 5 a0)
  have HG := Aside0.mk hb.size
  clear hb kb
  rw [HT.out]
  clear HT
  generalize tel a0 a1 = T at *
  generalize Lib.bytesWorld w1 5 a0 = W0 at *
  generalize grownCap w1 a0.size 0 5 = cap at *
  generalize w1.heap.size = g at *
  go_loopw [8, 9] (fun v8 v9 wr => ∃ k : Nat, k ≤ K ∧ v9 = .int .i64 k ∧ v8 = .bool (chg a2 k) ∧ Aside0 (BRow wr g a0.size (xsT a0 T a2 k)) ∧ Aside0 (Below w.heap.size w wr)) (fun _ v9 _ => 8 - (intOf v9).toNat)
  case atStart => exact ⟨0, by omega, rfl, rfl, HR, HB⟩
  case round =>
    clear HR HB
    obtain ⟨k, hk, rfl, rfl, HR, HB⟩ := hrel
    have hK := HRND.out
    by_cases h8 : k < 8
    · by_cases hlt : T + k < a0.size
      · have hc := HR.out.cell (T + k) hlt
        have hfz := HR.out.frozen (T + k) hlt
        have hk2 : k + 1 ≤ K := by omega
        clear hK hk
        have hch : chg a2 (k + 1) = (chg a2 k || xk a2 k != 0) := rfl
        have HCH := Aside0.mk hch
        clear hch
        go_wp2
        all_goals
          go_roundw
          case rel => exact ⟨k + 1, hk2, by go_num, by rw [HCH.out]; unfold xk; simp [*], ⟨HR.out.set (T + k) hlt _⟩, ⟨HB.out.setCell (p := ⟨g, T + k, none⟩) HG.out _⟩⟩
          case measure => simp [intOf]; omega
      · obtain rfl : k = K := by omega
        have hcv := string_of_reads (P := Try.prog) (src := 29) (dst := 9) (c := cap) Try.underlying29 Try.underlying5 Try.underlying9 (HR.out.reads (by omega))
        clear hK hk
        go_wp2_with (first | (go_at_call 9; (with_reducible refine (sum_Of.calls (strOfNums (xsT a0 T a2 k)) u _ HU.out).mono ?_); rintro e w2 ⟨rfl, hb2⟩) | (go_at_call 9; (with_reducible refine (sum_Of.calls a0 v _ HV.out).mono ?_); rintro e w3 ⟨rfl, hb3⟩))
        go_ret
        exact ⟨rfl, below_step (below_step HB.out hb2) hb3⟩
    · obtain rfl : k = K := by omega
      have hcv := string_of_reads (P := Try.prog) (src := 29) (dst := 9) (c := cap) Try.underlying29 Try.underlying5 Try.underlying9 (HR.out.reads (by omega))
      clear hK hk
      go_wp2_with (first | (go_at_call 9; (with_reducible refine (sum_Of.calls (strOfNums (xsT a0 T a2 k)) u _ HU.out).mono ?_); rintro e w2 ⟨rfl, hb2⟩) | (go_at_call 9; (with_reducible refine (sum_Of.calls a0 v _ HV.out).mono ?_); rintro e w3 ⟨rfl, hb3⟩))
      go_ret
      exact ⟨rfl, below_step (below_step HB.out hb2) hb3⟩

end Go.Proofs.Ytgdcklkdigdegaa.X
