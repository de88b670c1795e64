/- tuple.Write: walked by hand. -/
import Derived.Test.YtbohpjbcjnapfaaTup
import Derived.Test.YtbohpjbcjnapfaaX0
namespace Go.Proofs.Ytbohpjbcjnapfaa.X
open Go.RowKit Go.Proofs.YtbohpjbcjnapfaaW.PrintWords Go.Proofs.YtbohpjbcjnapfaaW.PrintLast Go.Proofs.YtbohpjbcjnapfaaW.PrintMore
set_option linter.unusedVariables false
set_option linter.unusedSimpArgs false

def vld (p : S52) : Bool := (p.f0 == 1 && p.f2 == 0) || ((p.f0 == 2 || p.f0 == 3) && p.f1.toList == [])
def numR (n : Int) : Int := Go.bits .xor .u64 (IntKind.u64.wrap n) 9223372036854775808
def numF (n : Int) : Int := Go.bits .xor .u64 18446744073709551615 (numR n)
def encP (p : S52) : List UInt8 := if p.f0 = 1 then 1 :: grp p.f1.data.toList else if p.f0 = 2 then 2 :: be (numR p.f2) 8 else 3 :: be (numF p.f2) 8
def encL (l : List S52) : List UInt8 := l.flatMap fun p => if vld p = true then encP p else []
def wrF (l : List S52) : ByteArray × Int := if l.all vld = true then (⟨(encL l).toArray⟩, 0) else (⟨#[]⟩, 1)
set_option maxHeartbeats 4000000 in
theorem is_calls (p : S52) (w : World) : Calls Try.prog 31 #[.agg #[.int .i64 p.f0, .string p.f1, .int .i64 p.f2]] w fun e w' => e = .returned (.bool (vld p)) ∧ Below w.heap.size w w' := by
  obtain ⟨a, s, n⟩ := p
  simp only
  by_cases h1 : a = 1
  · subst h1
    by_cases hn : n = 0
    · subst hn
      go_enter Try.func31, Try.ntmps31
      go_wp2
      go_ret
      exact ⟨by simp [vld], below_alloc (Below.refl _ _) _⟩
    · have e : (n == 0) = false := by simp [hn]
      go_enter Try.func31, Try.ntmps31
      go_wp2
      go_ret
      exact ⟨by simp [vld, hn], below_alloc (Below.refl _ _) _⟩
  · have e1 : (a == 1) = false := by simp [h1]
    by_cases ht : s.toList = []
    · have et : (s.toList == []) = true := by simp [ht]
      by_cases h2 : a = 2
      · subst h2
        go_enter Try.func31, Try.ntmps31
        go_wp2
        go_ret
        exact ⟨by simp [vld, ht], below_alloc (Below.refl _ _) _⟩
      · have e2 : (a == 2) = false := by simp [h2]
        by_cases h3 : a = 3
        · subst h3
          go_enter Try.func31, Try.ntmps31
          go_wp2
          go_ret
          exact ⟨by simp [vld, ht], below_alloc (Below.refl _ _) _⟩
        · have e3 : (a == 3) = false := by simp [h3]
          go_enter Try.func31, Try.ntmps31
          go_wp2
          go_ret
          exact ⟨by simp [vld, h1, h2, h3], below_alloc (Below.refl _ _) _⟩
    · have et : (s.toList == []) = false := by simp [ht]
      go_enter Try.func31, Try.ntmps31
      go_wp2
      go_ret
      exact ⟨by simp [vld, ht, h1], below_alloc (Below.refl _ _) _⟩
theorem is3 (a : Int) (s : ByteArray) (n : Int) (w : World) : Calls Try.prog 31 #[.agg #[.int .i64 a, .string s, .int .i64 n]] w fun e w' => e = .returned (.bool (vld ⟨a, s, n⟩)) ∧ Below w.heap.size w w' := is_calls ⟨a, s, n⟩ w
theorem encL_snoc (l : List S52) (i : Nat) (h : i < l.length) (hv : vld l[i] = true) : encL (l.take (i + 1)) = encL (l.take i) ++ encP l[i] := by
  rw [List.take_succ_eq_append_getElem h]; unfold encL
  rw [List.flatMap_append, List.flatMap_cons, List.flatMap_nil, List.append_nil, if_pos hv]
theorem encL_take (l : List S52) (i : Nat) : (encL (l.take i)).length ≤ (encL l).length := by
  have : encL l = encL (l.take i) ++ encL (l.drop i) := by
    unfold encL; rw [← List.flatMap_append, List.take_append_drop]
  rw [this, List.length_append]; omega
theorem bits_range (b : BinOp) (x y : Int) : 0 ≤ Go.bits .xor .u64 x y ∧ Go.bits .xor .u64 x y < 18446744073709551616 := by
  have l : Go.bits .xor .u64 x y = IntKind.u64.wrap ((BitVec.ofInt 64 x ^^^ BitVec.ofInt 64 y).toNat : Int) := rfl
  rw [l]
  show 0 ≤ (((BitVec.ofInt 64 x ^^^ BitVec.ofInt 64 y).toNat : Int)) % 2 ^ 64 ∧ _ % 2 ^ 64 < _
  omega
theorem bu_any (B b : Nat) (l : List UInt8) (w : World) (h : BU B b l w) (hB : B ≤ w.heap.size) :
    Calls Try.prog 35 #[.pointer (some ⟨b, 0, none⟩)] w fun e w' => e = .returned (.string ⟨l.toArray⟩) ∧ Below B w w' := Try.Builder_String_any B b l w h hB
theorem bu_new (w : World) : BU w.heap.size w.heap.size [] (w.alloc (.cells #[.pointer none, .slice none 0 0] 65)) := Lib.fresh_isBuilder 65 5 w
set_option maxHeartbeats 8000000 in
set_option maxRecDepth 100000 in
theorem write_calls (A0 : Option Addr) (c0 : Nat) (l0 : List S52) (w : World) (hr0 : Kd.C k52 w A0 l0.length l0) (hc0 : l0.length ≤ c0) (hb : (encL l0).length + 40 ≤ 140737488355328) :
    Calls Try.prog 15 #[.slice A0 l0.length c0] w fun e w' => e = .returned (.tuple #[.string (wrF l0).1, .int .i64 (wrF l0).2]) ∧ Below w.heap.size w w' := by
  have HR := Aside0.mk hr0
  have LM := Aside0.mk hb
  have h63 : l0.length ≤ 9223372036854775807 := hr0.2.1
  clear hr0 hb
  go_enter Try.func15, Try.ntmps15
  go_wp2
  go_loopw [9] (fun i W => ∃ n : Nat, n ≤ l0.length ∧ i = .int .i64 n ∧ Aside0 ((l0.take n).all vld = true) ∧ BU w.heap.size w.heap.size (encL (l0.take n)) W ∧ Below w.heap.size w W) (fun i _ => l0.length - (intOf i).toNat)
  case atStart => exact ⟨0, by omega, rfl, ⟨rfl⟩, bu_new w, below_alloc (Below.refl _ _) _⟩
  case round =>
    obtain ⟨n, hn, rfl, HV, hb, hw⟩ := hrel
    have HB := Aside0.mk hb
    have HW := Aside0.mk hw
    clear hb hw
    by_cases hlt : n < l0.length
    · obtain ⟨ad, e, hx0, hx1, hx2⟩ := at_T52 (Kd.C_below HR.out HW.out) (n : Int) (by omega) (by omega)
      have hrd : rd_T52 l0 (n : Int) = l0[n] := by
        unfold rd_T52
        rw [Int.toNat_natCast, List.getD_eq_getElem?_getD, List.getElem?_eq_getElem hlt]; rfl
      rw [hrd, Int.toNat_natCast] at hx0 hx1 hx2
      subst e
      have SN := Aside0.mk (encL_snoc l0 n hlt)
      have TL := Aside0.mk (encL_take l0 (n + 1))
      have VN : Aside0 ((l0.take (n + 1)).all vld = ((l0.take n).all vld && vld l0[n])) := ⟨by rw [List.take_succ_eq_append_getElem hlt, List.all_append]; simp⟩
      have VA : Aside0 (vld l0[n] = false → l0.all vld = false) := ⟨fun h => by
        rw [List.all_eq_false]; exact ⟨_, List.getElem_mem hlt, by simp [h]⟩⟩
      clear hrd
      generalize l0[n] = p at *
      cases hv : vld p
      · have HF := Aside0.mk (VA.out hv)
        go_wp2_with (first | (go_at_call 31; (with_reducible refine (is_calls p _).mono ?_); rintro e w1 ⟨rfl, h1⟩; rw [hv]; have HW1 := Aside0.mk (below_then (below_alloc HW.out _) (below_alloc HW.out _).size h1); clear h1 hv))
        go_ret2
        exact ⟨by unfold wrF; rw [HF.out]; rfl, HW1.out⟩
      · have hk : p.f0 = 1 ∨ p.f0 = 2 ∨ p.f0 = 3 := by
          unfold vld at hv
          simp only [Bool.or_eq_true, Bool.and_eq_true, beq_iff_eq] at hv
          omega
        have SN2 := Aside0.mk (SN.out hv)
        have VN2 : Aside0 ((l0.take (n + 1)).all vld = true) := ⟨by rw [VN.out, HV.out, hv]; rfl⟩
        obtain ⟨pa, ps, pn⟩ := p
        simp only at hk hx0 hx1 hx2
        rcases hk with rfl | rfl | rfl
        · have EP : Aside0 (encP ⟨1, ps, pn⟩ = 1 :: grp ps.data.toList) := ⟨by unfold encP; rw [if_pos rfl]⟩
          have HL : Aside0 ((encL (l0.take n)).length + 1 + (grp ps.data.toList).length + 40 ≤ 140737488355328) := ⟨by
            have h1 := LM.out; have h2 := TL.out
            rw [SN2.out, EP.out, List.length_append, List.length_cons] at h2; omega⟩
          go_wp2_with (first | (go_at_call 31; (with_reducible refine (is3 _ _ _ _).mono ?_); rintro e w1 ⟨rfl, h1⟩; rw [hv]; have HW1 := Aside0.mk (below_then (below_alloc HW.out _) (below_alloc HW.out _).size h1); have HB1 := Aside0.mk (bu_below HB.out (below_then (below_alloc (Below.refl _ _) _) (by simp) h1)); have HX := Aside0.mk (blk_below (blk_new wr _) h1); clear h1 hv; have b0 := (blk_cell HX.out 0).trans rfl; have b1 := (blk_cell HX.out 1).trans rfl; have b2 := (blk_cell HX.out 2).trans rfl) | (go_at_call 32; (with_reducible refine (bu_byte w.heap.size w.heap.size _ 1 _ HB1.out (by omega) (by omega) ?hl1 HW1.out.size).mono ?_); (case hl1 => have := HL.out; omega); rintro e w2 ⟨rfl, h1, h2, h3⟩; have HB2 := Aside0.mk h1; have HW2 := Aside0.mk (HW1.out.trans h2); have HX2 := Aside0.mk (h3 _ _ 52 (by decide) (by decide) HX.out); clear h1 h2 h3 b0 b1 b2; have b0 := (blk_cell HX2.out 0).trans rfl; have b1 := (blk_cell HX2.out 1).trans rfl; have b2 := (blk_cell HX2.out 2).trans rfl) | (go_at_call 33; (with_reducible refine (text_calls w.heap.size w.heap.size _ ps _ HB2.out ?hl2 HW2.out.size).mono ?_); (case hl2 => have := HL.out; rw [List.length_append, List.length_singleton]; omega); rintro e w3 ⟨rfl, h1, h2, h3⟩; have HB3 := Aside0.mk h1; have HW3 := Aside0.mk (HW2.out.trans h2); clear h1 h2 h3 b0 b1 b2))
          go_roundw
          case rel => exact ⟨n + 1, by omega, by go_num, VN2, by rw [SN2.out, EP.out]; simpa using HB3.out, HW3.out⟩
          case measure => simp [intOf]; omega
        · have EP : Aside0 (encP ⟨2, ps, pn⟩ = 2 :: be (numR pn) 8) := ⟨by unfold encP; rfl⟩
          have HL : Aside0 ((encL (l0.take n)).length + 1 + 8 + 40 ≤ 140737488355328) := ⟨by
            have h1 := LM.out; have h2 := TL.out
            rw [SN2.out, EP.out, List.length_append, List.length_cons, be_len] at h2; omega⟩
          go_wp2_with (first | (go_at_call 31; (with_reducible refine (is3 _ _ _ _).mono ?_); rintro e w1 ⟨rfl, h1⟩; rw [hv]; have HW1 := Aside0.mk (below_then (below_alloc HW.out _) (below_alloc HW.out _).size h1); have HB1 := Aside0.mk (bu_below HB.out (below_then (below_alloc (Below.refl _ _) _) (by simp) h1)); have HX := Aside0.mk (blk_below (blk_new wr _) h1); clear h1 hv; have b0 := (blk_cell HX.out 0).trans rfl; have b1 := (blk_cell HX.out 1).trans rfl; have b2 := (blk_cell HX.out 2).trans rfl) | (go_at_call 32; (with_reducible refine (bu_byte w.heap.size w.heap.size _ 2 _ HB1.out (by omega) (by omega) ?hl1 HW1.out.size).mono ?_); (case hl1 => have := HL.out; omega); rintro e w2 ⟨rfl, h1, h2, h3⟩; have HB2 := Aside0.mk h1; have HW2 := Aside0.mk (HW1.out.trans h2); have HX2 := Aside0.mk (h3 _ _ 52 (by decide) (by decide) HX.out); clear h1 h2 h3 b0 b1 b2; have b0 := (blk_cell HX2.out 0).trans rfl; have b1 := (blk_cell HX2.out 1).trans rfl; have b2 := (blk_cell HX2.out 2).trans rfl) | (go_at_call 34; (with_reducible refine (number_calls w.heap.size w.heap.size _ _ _ HB2.out (bits_range .xor _ _).1 (bits_range .xor _ _).2 ?hl2 HW2.out.size).mono ?_); (case hl2 => have := HL.out; rw [List.length_append, List.length_singleton]; omega); rintro e w3 ⟨rfl, h1, h2, h3⟩; have HB3 : Aside0 (BU w.heap.size w.heap.size (encL (l0.take n) ++ [UInt8.ofNat (2 : Int).toNat] ++ be (numR pn) 8) w3) := ⟨h1⟩; have HW3 := Aside0.mk (HW2.out.trans h2); clear h1 h2 h3 b0 b1 b2))
          go_roundw
          case rel => exact ⟨n + 1, by omega, by go_num, VN2, by rw [SN2.out, EP.out]; simpa using HB3.out, HW3.out⟩
          case measure => simp [intOf]; omega
        · have EP : Aside0 (encP ⟨3, ps, pn⟩ = 3 :: be (numF pn) 8) := ⟨by unfold encP; rfl⟩
          have HL : Aside0 ((encL (l0.take n)).length + 1 + 8 + 40 ≤ 140737488355328) := ⟨by
            have h1 := LM.out; have h2 := TL.out
            rw [SN2.out, EP.out, List.length_append, List.length_cons, be_len] at h2; omega⟩
          go_wp2_with (first | (go_at_call 31; (with_reducible refine (is3 _ _ _ _).mono ?_); rintro e w1 ⟨rfl, h1⟩; rw [hv]; have HW1 := Aside0.mk (below_then (below_alloc HW.out _) (below_alloc HW.out _).size h1); have HB1 := Aside0.mk (bu_below HB.out (below_then (below_alloc (Below.refl _ _) _) (by simp) h1)); have HX := Aside0.mk (blk_below (blk_new wr _) h1); clear h1 hv; have b0 := (blk_cell HX.out 0).trans rfl; have b1 := (blk_cell HX.out 1).trans rfl; have b2 := (blk_cell HX.out 2).trans rfl) | (go_at_call 32; (with_reducible refine (bu_byte w.heap.size w.heap.size _ 3 _ HB1.out (by omega) (by omega) ?hl1 HW1.out.size).mono ?_); (case hl1 => have := HL.out; omega); rintro e w2 ⟨rfl, h1, h2, h3⟩; have HB2 := Aside0.mk h1; have HW2 := Aside0.mk (HW1.out.trans h2); have HX2 := Aside0.mk (h3 _ _ 52 (by decide) (by decide) HX.out); clear h1 h2 h3 b0 b1 b2; have b0 := (blk_cell HX2.out 0).trans rfl; have b1 := (blk_cell HX2.out 1).trans rfl; have b2 := (blk_cell HX2.out 2).trans rfl) | (go_at_call 34; (with_reducible refine (number_calls w.heap.size w.heap.size _ _ _ HB2.out (bits_range .xor _ _).1 (bits_range .xor _ _).2 ?hl2 HW2.out.size).mono ?_); (case hl2 => have := HL.out; rw [List.length_append, List.length_singleton]; omega); rintro e w3 ⟨rfl, h1, h2, h3⟩; have HB3 : Aside0 (BU w.heap.size w.heap.size (encL (l0.take n) ++ [UInt8.ofNat (3 : Int).toNat] ++ be (numF pn) 8) w3) := ⟨h1⟩; have HW3 := Aside0.mk (HW2.out.trans h2); clear h1 h2 h3 b0 b1 b2))
          go_roundw
          case rel => exact ⟨n + 1, by omega, by go_num, VN2, by rw [SN2.out, EP.out]; simpa using HB3.out, HW3.out⟩
          case measure => simp [intOf]; omega
    · obtain rfl : n = l0.length := by omega
      have HT : Aside0 (l0.take l0.length = l0) := ⟨List.take_length⟩
      rw [HT.out] at HV HB
      go_wp2_with (go_at_call 35; (with_reducible refine (bu_any _ _ _ _ HB.out HW.out.size).mono ?_); rintro e w1 ⟨rfl, h1⟩; have HW1 := Aside0.mk (HW.out.trans h1); clear h1)
      go_ret2
      exact ⟨by unfold wrF; rw [HV.out]; rfl, HW1.out⟩
end Go.Proofs.Ytbohpjbcjnapfaa.X
