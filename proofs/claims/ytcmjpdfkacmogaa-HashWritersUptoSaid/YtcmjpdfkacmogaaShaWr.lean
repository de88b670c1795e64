/- Chapter 2: HashWriters, walked. -/
import Derived.Test.YtcmjpdfkacmogaaShaY
namespace Go.Proofs.Ytcmjpdfkacmogaa.Sha
open Go.RowKit Go.Proofs.Ytcmjpdfkacmogaa.X Go.Proofs.YtcmjpdfkacmogaaW.PrintWords Go.Proofs.YtcmjpdfkacmogaaW.PrintLast Go.Proofs.YtcmjpdfkacmogaaW.PrintMore
set_option linter.unusedVariables false
set_option linter.unusedSimpArgs false

def wr17.T17 : Bool × List (List Nat × List Nat) := (true, [([], []), ([0], [0]), ([1], [1]), ([2], [2]), ([3, 2], [2, 3]), ([4, 2], [2, 4]), ([5, 2, 2], [2, 5]), ([2], [2]), ([7, 2], [2, 7]), ([8, 2], [2, 8]), ([9, 6, 2], [2, 9]), ([6, 10, 2], [2, 6, 10]), ([11, 10, 2], [2, 11]), ([12], [12]), ([13, 12], [12, 13]), ([14, 12], [12, 14]), ([15, 12, 12], [12, 15]), ([12], [12]), ([17, 12], [12, 17]), ([18, 12], [12, 18]), ([19, 16, 12], [12, 19]), ([16, 20, 12], [12, 16, 20]), ([12, 21, 2], [2, 12, 21]), ([2, 22], [2, 22])])
def wr17.B17 : List Nat := [0, 1, 3, 7, 15, 31, 63, 7, 135, 391, 1023, 2047, 4095, 8191, 16383, 32767, 65535, 8191, 139263, 401407, 1048575, 2097151, 4194303, 8388607]
theorem wr17.tab17 : rtab .any (opsOf Try.f4 17) = wr17.T17 := by kernel_rfl
theorem wr17.bits17 : waitsOk wr17.T17.2 wr17.B17 = true := by kernel_rfl
def wr19.T19 : Bool × List (List Nat × List Nat) := (true, [([], []), ([0], [0]), ([1], [1]), ([], []), ([3], [3]), ([4, 2], [4]), ([2, 5], [2, 5]), ([6, 5], [6]), ([7], [7]), ([8, 7], [7, 8]), ([9, 7, 7], [7, 9]), ([7], [7]), ([11, 7], [7, 11]), ([12, 10, 7], [7, 12]), ([10, 13, 7], [7, 10, 13]), ([7, 14], [7, 14]), ([15, 13, 0, 1, 2, 3, 4, 5, 6, 7, 8, 9, 10, 11, 12, 13, 14, 15], [15])])
def wr19.B19 : List Nat := [0, 1, 3, 0, 8, 31, 63, 127, 255, 511, 1023, 255, 2303, 8191, 16383, 32767, 65535]
theorem wr19.tab19 : rtab .any (opsOf Try.f4 19) = wr19.T19 := by kernel_rfl
theorem wr19.bits19 : waitsOk wr19.T19.2 wr19.B19 = true := by kernel_rfl
/-- A piece for one of two writers. -/
def kO : Kd (Bool × ByteArray × Int × Bool) := Kd.pair Kd.bool (Kd.pair Kd.string (Kd.pair (Kd.int .i64) Kd.bool))
theorem kO_cells {W : World} {x : Bool × ByteArray × Int × Bool} {cs : List Value} (h : kO.K W x cs) : cs = [.bool x.1, .string x.2.1, .int .i64 x.2.2.1, .bool x.2.2.2] := by
  obtain ⟨c0, c1, rfl, h0, c2, c3, rfl, h2, c4, c5, rfl, h4, h5⟩ := h
  have e0 : c0 = [.bool x.1] := h0
  have e2 : c2 = [.string x.2.1] := h2
  have e4 : c4 = [.int .i64 x.2.2.1] := h4
  have e5 : c5 = [.bool x.2.2.2] := h5
  rw [e0, e2, e4, e5]; rfl
def zO : Bool × ByteArray × Int × Bool := (false, ByteArray.empty, 0, false)
theorem ops_at {W : World} {A : Option Addr} {n : Nat} {xs : List (Bool × ByteArray × Int × Bool)} (h : Kd.C kO W A n xs) (j : Nat) (hj : j < n) : ∃ ad : Addr, A = some ad ∧ W.cell? (ad.add (j * 4)) = some (.bool (xs.getD j zO).1) ∧ W.cell? ⟨(ad.add (j * 4)).block, (ad.add (j * 4)).off + 1, none⟩ = some (.string (xs.getD j zO).2.1)
    ∧ W.cell? ⟨(ad.add (j * 4)).block, (ad.add (j * 4)).off + 2, none⟩ = some (.int .i64 (xs.getD j zO).2.2.1) ∧ W.cell? ⟨(ad.add (j * 4)).block, (ad.add (j * 4)).off + 3, none⟩ = some (.bool (xs.getD j zO).2.2.2) := by
  obtain ⟨h1, h2, h3⟩ := h
  obtain ⟨ad, rfl, h4⟩ := h3 (by omega)
  obtain ⟨c, hl, hk, hc⟩ := h4 j _ (List.getElem?_eq_getElem (show j < xs.length by omega))
  have e := kO_cells hk
  have hx : xs.getD j zO = xs[j]'(by omega) := by rw [List.getD_eq_getElem?_getD, List.getElem?_eq_getElem (by omega)]; rfl
  rw [hx]
  subst e
  have hc : ∀ i u, _ → W.cell? (ad.add (j * 4 + i)) = some u := hc
  exact ⟨ad, rfl, hc 0 _ rfl, by rw [← add_field _ _ 1 (by omega)]; exact hc 1 _ rfl, by rw [← add_field _ _ 2 (by omega)]; exact hc 2 _ rfl, by rw [← add_field _ _ 3 (by omega)]; exact hc 3 _ rfl⟩
set_option maxHeartbeats 8000000 in
set_option maxRecDepth 100000 in
theorem writers_walk (A : Option Addr) (cp : Nat) (xs : List (Bool × ByteArray × Int × Bool)) (w : World) (hr : Kd.C kO w A xs.length xs) (hcp : xs.length ≤ cp) (hn : xs.length ≤ 1048576) (hsz : ∀ x ∈ xs, x.2.1.size ≤ 1048576) :
    Calls Try.prog 4 #[.slice A xs.length cp] w fun e w' => e = .returned (.bool true) ∧ Below w.heap.size w w' := by
  have HR := Aside0.mk hr
  have HN := Aside0.mk hn
  have HSZ := Aside0.mk hsz
  clear hr hsz
  go_enter Try.func4, Try.ntmps4
  go_wp2_with (first
    | (go_at_call 9; (with_reducible refine (head_calls _).mono ?_); rintro e w1 ⟨rfl, hb⟩; have D0 := Aside0.mk hb; clear hb)
    | (go_at_call 13; (with_reducible refine (held_new _).mono ?_); rintro e w2 ⟨g0, rfl, hg, hh, hb⟩; have G0 : Aside0 (w.heap.size ≤ g0) := ⟨Nat.le_trans D0.out.size hg⟩; have H0 := Aside0.mk hh; have D1 := Aside0.mk (below_then D0.out D0.out.size hb); clear hb hg hh D0)
    | (go_at_call 13; (with_reducible refine (held_new _).mono ?_); rintro e w3 ⟨g1, rfl, hg, hh, hb⟩; have G1 : Aside0 (w.heap.size ≤ g1) := ⟨Nat.le_trans D1.out.size hg⟩; have N01 : Aside0 (g0 < g1) := ⟨Nat.lt_of_lt_of_le (blk_lt H0.out) hg⟩; have n_H0 : Aside0 (Held g0 [] w3) := ⟨blk_below H0.out hb⟩; have H1 := Aside0.mk hh; have D2 := Aside0.mk (below_then D1.out D1.out.size hb); clear hb hg hh D1 H0; have H0 := n_H0; clear n_H0))
  change Code.wp _ _ _ _ ((w3.alloc (.cells #[.pointer (some ⟨g0, 0, none⟩), .pointer (some ⟨g1, 0, none⟩)] 30)).alloc (.cells #[.string (tx []), .string (tx [])] 31))
  have C3 : Aside0 (((w3.alloc (.cells #[.pointer (some ⟨g0, 0, none⟩), .pointer (some ⟨g1, 0, none⟩)] 30)).alloc (.cells #[.string (tx []), .string (tx [])] 31)).heap[w3.heap.size]? = some (.cells #[.pointer (some ⟨g0, 0, none⟩), .pointer (some ⟨g1, 0, none⟩)] 30 (0, 0))) := ⟨blk_below (blk_new w3 _) (below_alloc (Below.refl _ _) _)⟩
  have C4 : Aside0 (((w3.alloc (.cells #[.pointer (some ⟨g0, 0, none⟩), .pointer (some ⟨g1, 0, none⟩)] 30)).alloc (.cells #[.string (tx []), .string (tx [])] 31)).heap[w3.heap.size + 1]? = some (.cells #[.string (tx []), .string (tx [])] 31 (0, 0))) := ⟨alloc_second _ _ _⟩
  have hq2 := below_alloc (below_alloc (Below.refl w3.heap.size w3) (.cells #[.pointer (some ⟨g0, 0, none⟩), .pointer (some ⟨g1, 0, none⟩)] 30)) (.cells #[.string (tx []), .string (tx [])] 31)
  have n_H0 : Aside0 (Held g0 [] _) := ⟨blk_below H0.out hq2⟩
  have n_H1 : Aside0 (Held g1 [] _) := ⟨blk_below H1.out hq2⟩
  have D0 := Aside0.mk (below_alloc (below_alloc D2.out (.cells #[.pointer (some ⟨g0, 0, none⟩), .pointer (some ⟨g1, 0, none⟩)] 30)) (.cells #[.string (tx []), .string (tx [])] 31))
  have L0s : Aside0 (g0 < w3.heap.size) := ⟨blk_lt H0.out⟩
  have L1s : Aside0 (g1 < w3.heap.size) := ⟨blk_lt H1.out⟩
  have WS := Aside0.mk D2.out.size
  clear H0 H1 hq2 D2
  have H0 := n_H0
  have H1 := n_H1
  clear n_H0 n_H1
  generalize (w3.alloc (.cells #[.pointer (some ⟨g0, 0, none⟩), .pointer (some ⟨g1, 0, none⟩)] 30)).alloc (.cells #[.string (tx []), .string (tx [])] 31) = wB at C3 C4 H0 H1 D0 ⊢
  obtain ⟨g3, hg3⟩ : ∃ g, g = w3.heap.size := ⟨_, rfl⟩
  obtain ⟨g4, hg4⟩ : ∃ g, g = w3.heap.size + 1 := ⟨_, rfl⟩
  have P3 : ∀ j, (Value.pointer (some ⟨w3.heap.size, j, none⟩)) = .pointer (some ⟨g3, j, none⟩) := fun j => by rw [hg3]
  have P4 : (Value.pointer (some ⟨w3.heap.size + 1, 0, none⟩)) = .pointer (some ⟨g4, 0, none⟩) := by rw [hg4]
  rw [P3 0, P3 1, P4]
  rw [← hg3] at C3 L0s L1s
  rw [← hg4] at C4
  have G3 : Aside0 (w.heap.size ≤ g3) := ⟨by have := WS.out; omega⟩
  have G4 : Aside0 (w.heap.size ≤ g4) := ⟨by have := WS.out; omega⟩
  have N34 : Aside0 (g3 < g4) := ⟨by omega⟩
  clear P3 P4 hg3 hg4 WS
  go_loopw [5] (fun v W => ∃ (i : Nat) (L0 L1 : List UInt8), i ≤ xs.length ∧ v = .int .i64 i ∧ Aside0 (L0.length ≤ i * 1048576 ∧ L1.length ≤ i * 1048576) ∧ Aside0 (W.heap[g3]? = some (.cells #[.pointer (some ⟨g0, 0, none⟩), .pointer (some ⟨g1, 0, none⟩)] 30 (0, 0))) ∧ Aside0 (W.heap[g4]? = some (.cells #[.string (tx L0), .string (tx L1)] 31 (0, 0))) ∧ Aside0 (Held g0 L0 W) ∧ Aside0 (Held g1 L1 W) ∧ Aside0 (Below w.heap.size w W)) (fun v _ => xs.length - (intOf v).toNat)
  case atStart => exact ⟨0, [], [], Nat.zero_le _, rfl, ⟨Nat.zero_le _, Nat.zero_le _⟩, C3, C4, H0, H1, D0⟩
  case round =>
    clear C3 C4 H0 H1 D0
    obtain ⟨i, L0, L1, hi, rfl, HL, C3, C4, H0, H1, D0⟩ := hrel
    by_cases hlt : i < xs.length
    · have q1 : ((i : Int) < (xs.length : Int)) = True := eq_true (by omega)
      have q2 : (xs.length ≤ i) = False := eq_false (by omega)
      obtain ⟨ad, rfl, x0, x1, x2, x3⟩ := ops_at (Kd.C_below HR.out D0.out) i hlt
      have hsx : (xs.getD i zO).2.1.size ≤ 1048576 := by
        rw [List.getD_eq_getElem?_getD, List.getElem?_eq_getElem hlt]
        exact HSZ.out _ (List.getElem_mem hlt)
      generalize xs.getD i zO = o at x0 x1 x2 x3 hsx
      obtain ⟨two, sx, tm, ask⟩ := o
      dsimp only at x0 x1 x2 x3 hsx
      obtain ⟨r, hrs, HG⟩ := grown_calls sx tm
      obtain ⟨b, rfl, hl⟩ := tx_of r
      have HB : Aside0 (b.length ≤ 1048576) := ⟨by omega⟩
      have HI : Aside0 (i ≤ 1048576) := ⟨by have := HN.out; omega⟩
      clear hrs hl hsx
      go_upto_region 11 with (fail)
      change Code.wp _ _ _ _ (wr.alloc (.cells #[.bool two, .string sx, .int .i64 tm, .bool ask] 33))
      have C6 : Aside0 ((wr.alloc (.cells #[.bool two, .string sx, .int .i64 tm, .bool ask] 33)).heap[wr.heap.size]? = some (.cells #[.bool two, .string sx, .int .i64 tm, .bool ask] 33 (0, 0))) := ⟨blk_new _ _⟩
      have hq3 := below_alloc (Below.refl wr.heap.size wr) (.cells #[.bool two, .string sx, .int .i64 tm, .bool ask] 33)
      have n_C3 := Aside0.mk (blk_below C3.out hq3)
      have n_C4 := Aside0.mk (blk_below C4.out hq3)
      have n_H0 : Aside0 (Held g0 L0 _) := ⟨blk_below H0.out hq3⟩
      have n_H1 : Aside0 (Held g1 L1 _) := ⟨blk_below H1.out hq3⟩
      have n_D0 := Aside0.mk (below_alloc D0.out (.cells #[.bool two, .string sx, .int .i64 tm, .bool ask] 33))
      have N46 : Aside0 (g4 < wr.heap.size) := ⟨blk_lt C4.out⟩
      clear C3 C4 H0 H1 D0 hq3 x0 x1 x2 x3
      have C3 := n_C3
      have C4 := n_C4
      have H0 := n_H0
      have H1 := n_H1
      have D0 := n_D0
      clear n_C3 n_C4 n_H0 n_H1 n_D0
      generalize wr.alloc (.cells #[.bool two, .string sx, .int .i64 tm, .bool ask] 33) = wA at C3 C4 C6 H0 H1 D0 ⊢
      obtain ⟨g6, hg6⟩ : ∃ g, g = wr.heap.size := ⟨_, rfl⟩
      have P6 : (Value.pointer (some ⟨wr.heap.size, 0, none⟩)) = .pointer (some ⟨g6, 0, none⟩) := by rw [hg6]
      rw [P6]
      rw [← hg6] at C6 N46
      clear P6 hg6
      have z0 : wA.cell? ⟨g6, 0, none⟩ = some (.bool two) := (blk_cell C6.out 0).trans rfl
      have z1 : wA.cell? ⟨g6, 1, none⟩ = some (.string sx) := (blk_cell C6.out 1).trans rfl
      have z2 : wA.cell? ⟨g6, 2, none⟩ = some (.int .i64 tm) := (blk_cell C6.out 2).trans rfl
      cases two
      · skip
        have HW : ∀ W : World, Held g0 L0 W → Calls Try.prog 14 #[.pointer (some ⟨g0, 0, none⟩), .string (tx b)] W fun e w' => e = .returned (.tuple #[]) ∧ Held g0 (L0 ++ b) w' ∧ Own g0 W w' := fun W h => held_write g0 L0 b W h (by have := HB.out; omega)
        have htr : tx L0 ++ tx b = tx (L0 ++ b) := tx_append L0 b
        have hs1 := tx_size L0
        have hs2 := tx_size b
        have HLQ : Aside0 (L0.length + b.length ≤ (i + 1) * 1048576) := ⟨by have := HL.out.1; have := HB.out; omega⟩
        have t1 : (L0.length + b.length ≤ 9223372036854775807) = True := eq_true (by have := HLQ.out; have := HI.out; omega)
        have t2 : (9223372036854775807 < L0.length + b.length) = False := eq_false (by have := HLQ.out; have := HI.out; omega)
        go_upto_region 17 with (first
          | (go_at_call 10; (with_reducible refine (HG _).mono ?_); rintro e w6 ⟨rfl, hb⟩; have n_C3 := Aside0.mk (blk_below C3.out hb); have n_C4 := Aside0.mk (blk_below C4.out hb); have n_C6 := Aside0.mk (blk_below C6.out hb); have n_H0 : Aside0 (Held g0 L0 _) := ⟨blk_below H0.out hb⟩; have n_H1 : Aside0 (Held g1 L1 _) := ⟨blk_below H1.out hb⟩; have n_D0 := Aside0.mk (below_then D0.out D0.out.size hb); clear C3 C4 C6 H0 H1 D0; have C3 := n_C3; have C4 := n_C4; have C6 := n_C6; have H0 := n_H0; have H1 := n_H1; have D0 := n_D0; clear n_C3 n_C4 n_C6 n_H0 n_H1 n_D0; clear hb; have y3 : w6.cell? ⟨g3, 0, none⟩ = some (.pointer (some ⟨g0, 0, none⟩)) := (blk_cell C3.out 0).trans rfl)
          | (go_at_call 14; (with_reducible refine (HW _ H0.out).mono ?_); rintro e w7 ⟨rfl, hh, hb⟩; have n_C3 := Aside0.mk (hb.other _ _ (by have := L0s.out; omega) C3.out); have n_C4 := Aside0.mk (hb.other _ _ (by have := L0s.out; have := N34.out; omega) C4.out); have n_C6 := Aside0.mk (hb.other _ _ (by have := L0s.out; have := N34.out; have := N46.out; omega) C6.out); have n_H0 : Aside0 (Held g0 (L0 ++ b) _) := ⟨hh⟩; have n_H1 : Aside0 (Held g1 L1 _) := ⟨hb.other _ _ (by have := N01.out; omega) H1.out⟩; have n_D0 := Aside0.mk (D0.out.trans (hb.below _ G0.out D0.out.size)); clear C3 C4 C6 H0 H1 D0; have C3 := n_C3; have C4 := n_C4; have C6 := n_C6; have H0 := n_H0; have H1 := n_H1; have D0 := n_D0; clear n_C3 n_C4 n_C6 n_H0 n_H1 n_D0; clear hh hb; have y4 : w7.cell? ⟨g4, 0, none⟩ = some (.string (tx L0)) := (blk_cell C4.out 0).trans rfl; have f4 := blk_frozen C4.out 0))
        change Code.wp _ _ _ _ (w7.setCell ⟨g4, 0, none⟩ (.string (tx (L0 ++ b))))
        have n_C3 := Aside0.mk (blk_far C3.out (p := ⟨g4, 0, none⟩) (by have := N34.out; show g3 ≠ g4; omega) (.string (tx (L0 ++ b))))
        have n_C4 := Aside0.mk (blk_put C4.out 0 (.string (tx (L0 ++ b))) rfl)
        have n_C6 := Aside0.mk (blk_far C6.out (p := ⟨g4, 0, none⟩) (by have := N46.out; show g6 ≠ g4; omega) (.string (tx (L0 ++ b))))
        have n_H0 : Aside0 (Held g0 (L0 ++ b) _) := ⟨blk_far H0.out (p := ⟨g4, 0, none⟩) (by have := L0s.out; have := N34.out; show g0 ≠ g4; omega) (.string (tx (L0 ++ b)))⟩
        have n_H1 : Aside0 (Held g1 L1 _) := ⟨blk_far H1.out (p := ⟨g4, 0, none⟩) (by have := L1s.out; have := N34.out; show g1 ≠ g4; omega) (.string (tx (L0 ++ b)))⟩
        have n_D0 := Aside0.mk (below_set' (v := .string (tx (L0 ++ b))) (j := 0) D0.out G4.out)
        clear C3 C4 C6 H0 H1 D0
        have C3 := n_C3
        have C4 := n_C4
        have C6 := n_C6
        have H0 := n_H0
        have H1 := n_H1
        have D0 := n_D0
        clear n_C3 n_C4 n_C6 n_H0 n_H1 n_D0
        generalize w7.setCell ⟨g4, 0, none⟩ (.string (tx (L0 ++ b))) = wC at C3 C4 C6 H0 H1 D0 ⊢
        have C4 : Aside0 (wC.heap[g4]? = some (.cells #[.string (tx (L0 ++ b)), .string (tx L1)] 31 (0, 0))) := ⟨C4.out⟩
        have HL2 : Aside0 ((L0 ++ b).length ≤ 140737488355328) := ⟨by rw [List.length_append]; have := HLQ.out; have := HI.out; omega⟩
        have heq := eq32 (sumF (L0 ++ b)) (sumF (L0 ++ b)) (sumF_len _) (sumF_len _)
        rw [decide_eq_true rfl] at heq
        have HSW : ∀ W : World, Held g0 (L0 ++ b) W → Calls Try.prog 15 #[.pointer (some ⟨g0, 0, none⟩)] W fun e w' => e = .returned (B32 (sumF (L0 ++ b))) ∧ Below W.heap.size W w' := fun W h => held_sum g0 _ W h
        have HRS : ∀ W : World, Calls Try.prog 12 #[.string (tx (L0 ++ b))] W fun e w' => e = .returned (B32 (sumF (L0 ++ b))) ∧ Below W.heap.size W w' := fun W => rsum_calls (L0 ++ b) W HL2.out
        obtain ⟨V, hB⟩ : ∃ V, B32 (sumF (L0 ++ b)) = .agg V := ⟨_, rfl⟩
        rw [hB] at heq HSW HRS
        clear hB HW t1 t2 hs1 hs2 htr
        cases ask
        · skip
          refine start_ (n := 24) (S := fun W => W.heap[g3]? = some (.cells #[.pointer (some ⟨g0, 0, none⟩), .pointer (some ⟨g1, 0, none⟩)] 30 (0, 0)) ∧ W.heap[g4]? = some (.cells #[.string (tx (L0 ++ b)), .string (tx L1)] 31 (0, 0)) ∧ W.heap[g6]? = some (.cells #[.bool false, .string sx, .int .i64 tm, .bool false] 33 (0, 0))) (ds := []) #[false, false, false, false, false, false, false, false, false, false, false, false, false, false, false, false, false, false, false, false, false, false, false, false] (by kernel_rfl) rfl rfl ⟨blk_drew C3.out, blk_drew C4.out, blk_drew C6.out⟩ (fun hHeld => ?_); refine with_tabW wr17.tab17 wr17.bits17 (fun HT_ HW_ => ?_)
          have n_C3 := Aside0.mk (blk_drew C3.out)
          have n_C4 := Aside0.mk (blk_drew C4.out)
          have n_C6 := Aside0.mk (blk_drew C6.out)
          have n_H0 : Aside0 (Held g0 (L0 ++ b) _) := ⟨blk_drew H0.out⟩
          have n_H1 : Aside0 (Held g1 L1 _) := ⟨blk_drew H1.out⟩
          have n_D0 := Aside0.mk (below_drew1 D0.out)
          clear C3 C4 C6 H0 H1 D0
          have C3 := n_C3
          have C4 := n_C4
          have C6 := n_C6
          have H0 := n_H0
          have H1 := n_H1
          have D0 := n_D0
          clear n_C3 n_C4 n_C6 n_H0 n_H1 n_D0
          generalize World.drew _ = wR at C3 C4 C6 H0 H1 D0 hHeld ⊢
          refine pure_ (i := 0) (N := some 51) (v := ?_) (a' := ?_) #[true, false, false, false, false, false, false, false, false, false, false, false, false, false, false, false, false, false, false, false, false, false, false, false] rfl rfl (any_of HT_.out (by kernel_rfl)) (fun _ _ _ h => h) (Or.inl ⟨by rfl, ?_⟩) ?_ ?_
          rotate_left
          · intro w'
            go_simp
            with_reducible rfl
          rotate_left
          · simp only [Act.put, List.setIfInBounds_toArray, List.set_cons_zero, List.set_cons_succ, i64_w, i32_w]
            rfl
          refine take_ (i := 1) (N := some 52) (v := ?_) (a' := ?_) #[true, true, false, false, false, false, false, false, false, false, false, false, false, false, false, false, false, false, false, false, false, false, false, false] rfl rfl (take_ofW HT_.out HW_.out (by kernel_rfl)) (fun _ _ _ h => h) (Or.inl ⟨by rfl, ?_⟩) hHeld ?_ ?_
          rotate_left
          · rintro w' ⟨s0, s1, s2⟩
            have y0 : w'.cell? ⟨g6, 3, none⟩ = some (.bool false) := (blk_cell s2 3).trans rfl
            go_simp
            with_reducible rfl
          rotate_left
          · simp only [Act.put, List.setIfInBounds_toArray, List.set_cons_zero, List.set_cons_succ, i64_w, i32_w]
            rfl
          refine pure_ (i := 2) (N := some 53) (v := ?_) (a' := ?_) #[true, true, true, false, false, false, false, false, false, false, false, false, false, false, false, false, false, false, false, false, false, false, false, false] rfl rfl (any_of HT_.out (by kernel_rfl)) (fun _ _ _ h => h) (Or.inl ⟨by rfl, ?_⟩) ?_ ?_
          rotate_left
          · intro w'
            go_simp
            with_reducible rfl
          rotate_left
          · simp only [Act.put, List.setIfInBounds_toArray, List.set_cons_zero, List.set_cons_succ, i64_w, i32_w]
            rfl
          refine pure_ (i := 3) (N := some 54) (v := undef) (a' := ?_) #[true, true, true, true, false, false, false, false, false, false, false, false, false, false, false, false, false, false, false, false, false, false, false, false] rfl rfl (any_of HT_.out (by kernel_rfl)) (fun _ _ _ h => h) (Or.inr ⟨by rfl, rfl⟩) ?_ ?_
          rotate_left
          · simp only [Act.put, List.setIfInBounds_toArray, List.set_cons_zero, List.set_cons_succ, i64_w, i32_w]
            rfl
          refine pure_ (i := 4) (N := some 55) (v := undef) (a' := ?_) #[true, true, true, true, true, false, false, false, false, false, false, false, false, false, false, false, false, false, false, false, false, false, false, false] rfl rfl (any_of HT_.out (by kernel_rfl)) (fun _ _ _ h => h) (Or.inr ⟨by rfl, rfl⟩) ?_ ?_
          rotate_left
          · simp only [Act.put, List.setIfInBounds_toArray, List.set_cons_zero, List.set_cons_succ, i64_w, i32_w]
            rfl
          refine pure_ (i := 5) (N := some 56) (v := undef) (a' := ?_) #[true, true, true, true, true, true, false, false, false, false, false, false, false, false, false, false, false, false, false, false, false, false, false, false] rfl rfl (any_of HT_.out (by kernel_rfl)) (fun _ _ _ h => h) (Or.inr ⟨by rfl, rfl⟩) ?_ ?_
          rotate_left
          · simp only [Act.put, List.setIfInBounds_toArray, List.set_cons_zero, List.set_cons_succ, i64_w, i32_w]
            rfl
          refine pure_ (i := 6) (N := some 57) (v := undef) (a' := ?_) #[true, true, true, true, true, true, true, false, false, false, false, false, false, false, false, false, false, false, false, false, false, false, false, false] rfl rfl (any_of HT_.out (by kernel_rfl)) (fun _ _ _ h => h) (Or.inr ⟨by rfl, rfl⟩) ?_ ?_
          rotate_left
          · simp only [Act.put, List.setIfInBounds_toArray, List.set_cons_zero, List.set_cons_succ, i64_w, i32_w]
            rfl
          refine pure_ (i := 7) (N := some 58) (v := undef) (a' := ?_) #[true, true, true, true, true, true, true, true, false, false, false, false, false, false, false, false, false, false, false, false, false, false, false, false] rfl rfl (any_of HT_.out (by kernel_rfl)) (fun _ _ _ h => h) (Or.inr ⟨by rfl, rfl⟩) ?_ ?_
          rotate_left
          · simp only [Act.put, List.setIfInBounds_toArray, List.set_cons_zero, List.set_cons_succ, i64_w, i32_w]
            rfl
          refine pure_ (i := 8) (N := some 59) (v := undef) (a' := ?_) #[true, true, true, true, true, true, true, true, true, false, false, false, false, false, false, false, false, false, false, false, false, false, false, false] rfl rfl (any_of HT_.out (by kernel_rfl)) (fun _ _ _ h => h) (Or.inr ⟨by rfl, rfl⟩) ?_ ?_
          rotate_left
          · simp only [Act.put, List.setIfInBounds_toArray, List.set_cons_zero, List.set_cons_succ, i64_w, i32_w]
            rfl
          refine pure_ (i := 9) (N := some 60) (v := undef) (a' := ?_) #[true, true, true, true, true, true, true, true, true, true, false, false, false, false, false, false, false, false, false, false, false, false, false, false] rfl rfl (any_of HT_.out (by kernel_rfl)) (fun _ _ _ h => h) (Or.inr ⟨by rfl, rfl⟩) ?_ ?_
          rotate_left
          · simp only [Act.put, List.setIfInBounds_toArray, List.set_cons_zero, List.set_cons_succ, i64_w, i32_w]
            rfl
          refine pure_ (i := 10) (N := some 61) (v := undef) (a' := ?_) #[true, true, true, true, true, true, true, true, true, true, true, false, false, false, false, false, false, false, false, false, false, false, false, false] rfl rfl (any_of HT_.out (by kernel_rfl)) (fun _ _ _ h => h) (Or.inr ⟨by rfl, rfl⟩) ?_ ?_
          rotate_left
          · simp only [Act.put, List.setIfInBounds_toArray, List.set_cons_zero, List.set_cons_succ, i64_w, i32_w]
            rfl
          refine pure_ (i := 11) (N := some 62) (v := undef) (a' := ?_) #[true, true, true, true, true, true, true, true, true, true, true, true, false, false, false, false, false, false, false, false, false, false, false, false] rfl rfl (any_of HT_.out (by kernel_rfl)) (fun _ _ _ h => h) (Or.inr ⟨by rfl, rfl⟩) ?_ ?_
          rotate_left
          · simp only [Act.put, List.setIfInBounds_toArray, List.set_cons_zero, List.set_cons_succ, i64_w, i32_w]
            rfl
          refine pure_ (i := 12) (N := some 63) (v := undef) (a' := ?_) #[true, true, true, true, true, true, true, true, true, true, true, true, true, false, false, false, false, false, false, false, false, false, false, false] rfl rfl (any_of HT_.out (by kernel_rfl)) (fun _ _ _ h => h) (Or.inr ⟨by rfl, rfl⟩) ?_ ?_
          rotate_left
          · simp only [Act.put, List.setIfInBounds_toArray, List.set_cons_zero, List.set_cons_succ, i64_w, i32_w]
            rfl
          refine pure_ (i := 13) (N := some 64) (v := undef) (a' := ?_) #[true, true, true, true, true, true, true, true, true, true, true, true, true, true, false, false, false, false, false, false, false, false, false, false] rfl rfl (any_of HT_.out (by kernel_rfl)) (fun _ _ _ h => h) (Or.inr ⟨by rfl, rfl⟩) ?_ ?_
          rotate_left
          · simp only [Act.put, List.setIfInBounds_toArray, List.set_cons_zero, List.set_cons_succ, i64_w, i32_w]
            rfl
          refine pure_ (i := 14) (N := some 65) (v := undef) (a' := ?_) #[true, true, true, true, true, true, true, true, true, true, true, true, true, true, true, false, false, false, false, false, false, false, false, false] rfl rfl (any_of HT_.out (by kernel_rfl)) (fun _ _ _ h => h) (Or.inr ⟨by rfl, rfl⟩) ?_ ?_
          rotate_left
          · simp only [Act.put, List.setIfInBounds_toArray, List.set_cons_zero, List.set_cons_succ, i64_w, i32_w]
            rfl
          refine pure_ (i := 15) (N := some 66) (v := undef) (a' := ?_) #[true, true, true, true, true, true, true, true, true, true, true, true, true, true, true, true, false, false, false, false, false, false, false, false] rfl rfl (any_of HT_.out (by kernel_rfl)) (fun _ _ _ h => h) (Or.inr ⟨by rfl, rfl⟩) ?_ ?_
          rotate_left
          · simp only [Act.put, List.setIfInBounds_toArray, List.set_cons_zero, List.set_cons_succ, i64_w, i32_w]
            rfl
          refine pure_ (i := 16) (N := some 67) (v := undef) (a' := ?_) #[true, true, true, true, true, true, true, true, true, true, true, true, true, true, true, true, true, false, false, false, false, false, false, false] rfl rfl (any_of HT_.out (by kernel_rfl)) (fun _ _ _ h => h) (Or.inr ⟨by rfl, rfl⟩) ?_ ?_
          rotate_left
          · simp only [Act.put, List.setIfInBounds_toArray, List.set_cons_zero, List.set_cons_succ, i64_w, i32_w]
            rfl
          refine pure_ (i := 17) (N := some 68) (v := undef) (a' := ?_) #[true, true, true, true, true, true, true, true, true, true, true, true, true, true, true, true, true, true, false, false, false, false, false, false] rfl rfl (any_of HT_.out (by kernel_rfl)) (fun _ _ _ h => h) (Or.inr ⟨by rfl, rfl⟩) ?_ ?_
          rotate_left
          · simp only [Act.put, List.setIfInBounds_toArray, List.set_cons_zero, List.set_cons_succ, i64_w, i32_w]
            rfl
          refine pure_ (i := 18) (N := some 69) (v := undef) (a' := ?_) #[true, true, true, true, true, true, true, true, true, true, true, true, true, true, true, true, true, true, true, false, false, false, false, false] rfl rfl (any_of HT_.out (by kernel_rfl)) (fun _ _ _ h => h) (Or.inr ⟨by rfl, rfl⟩) ?_ ?_
          rotate_left
          · simp only [Act.put, List.setIfInBounds_toArray, List.set_cons_zero, List.set_cons_succ, i64_w, i32_w]
            rfl
          refine pure_ (i := 19) (N := some 70) (v := undef) (a' := ?_) #[true, true, true, true, true, true, true, true, true, true, true, true, true, true, true, true, true, true, true, true, false, false, false, false] rfl rfl (any_of HT_.out (by kernel_rfl)) (fun _ _ _ h => h) (Or.inr ⟨by rfl, rfl⟩) ?_ ?_
          rotate_left
          · simp only [Act.put, List.setIfInBounds_toArray, List.set_cons_zero, List.set_cons_succ, i64_w, i32_w]
            rfl
          refine pure_ (i := 20) (N := some 71) (v := undef) (a' := ?_) #[true, true, true, true, true, true, true, true, true, true, true, true, true, true, true, true, true, true, true, true, true, false, false, false] rfl rfl (any_of HT_.out (by kernel_rfl)) (fun _ _ _ h => h) (Or.inr ⟨by rfl, rfl⟩) ?_ ?_
          rotate_left
          · simp only [Act.put, List.setIfInBounds_toArray, List.set_cons_zero, List.set_cons_succ, i64_w, i32_w]
            rfl
          refine pure_ (i := 21) (N := some 72) (v := undef) (a' := ?_) #[true, true, true, true, true, true, true, true, true, true, true, true, true, true, true, true, true, true, true, true, true, true, false, false] rfl rfl (any_of HT_.out (by kernel_rfl)) (fun _ _ _ h => h) (Or.inr ⟨by rfl, rfl⟩) ?_ ?_
          rotate_left
          · simp only [Act.put, List.setIfInBounds_toArray, List.set_cons_zero, List.set_cons_succ, i64_w, i32_w]
            rfl
          refine pure_ (i := 22) (N := some 73) (v := undef) (a' := ?_) #[true, true, true, true, true, true, true, true, true, true, true, true, true, true, true, true, true, true, true, true, true, true, true, false] rfl rfl (any_of HT_.out (by kernel_rfl)) (fun _ _ _ h => h) (Or.inr ⟨by rfl, rfl⟩) ?_ ?_
          rotate_left
          · simp only [Act.put, List.setIfInBounds_toArray, List.set_cons_zero, List.set_cons_succ, i64_w, i32_w]
            rfl
          refine pure_ (i := 23) (N := some 74) (v := ?_) (a' := ?_) #[true, true, true, true, true, true, true, true, true, true, true, true, true, true, true, true, true, true, true, true, true, true, true, true] rfl rfl (any_of HT_.out (by kernel_rfl)) (fun _ _ _ h => h) (Or.inl ⟨by rfl, ?_⟩) ?_ ?_
          rotate_left
          · intro w'
            go_simp
            with_reducible rfl
          rotate_left
          · simp only [Act.put, List.setIfInBounds_toArray, List.set_cons_zero, List.set_cons_succ, i64_w, i32_w]
            rfl
          refine done_ (done_of HT_.out (by kernel_rfl)) ?_
          go_wp2
          go_roundw
          case rel => exact ⟨i + 1, (L0 ++ b), L1, by omega, by go_num, ⟨by rw [List.length_append]; exact HLQ.out, Nat.le_trans HL.out.2 (Nat.mul_le_mul_right _ (Nat.le_succ _))⟩, C3, C4, H0, H1, D0⟩
          case measure => simp [intOf]; omega
        · skip
          refine start_ (n := 24) (S := fun W => W.heap[g3]? = some (.cells #[.pointer (some ⟨g0, 0, none⟩), .pointer (some ⟨g1, 0, none⟩)] 30 (0, 0)) ∧ W.heap[g4]? = some (.cells #[.string (tx (L0 ++ b)), .string (tx L1)] 31 (0, 0)) ∧ W.heap[g6]? = some (.cells #[.bool false, .string sx, .int .i64 tm, .bool true] 33 (0, 0))) (ds := []) #[false, false, false, false, false, false, false, false, false, false, false, false, false, false, false, false, false, false, false, false, false, false, false, false] (by kernel_rfl) rfl rfl ⟨blk_drew C3.out, blk_drew C4.out, blk_drew C6.out⟩ (fun hHeld => ?_); refine with_tabW wr17.tab17 wr17.bits17 (fun HT_ HW_ => ?_)
          have n_C3 := Aside0.mk (blk_drew C3.out)
          have n_C4 := Aside0.mk (blk_drew C4.out)
          have n_C6 := Aside0.mk (blk_drew C6.out)
          have n_H0 : Aside0 (Held g0 (L0 ++ b) _) := ⟨blk_drew H0.out⟩
          have n_H1 : Aside0 (Held g1 L1 _) := ⟨blk_drew H1.out⟩
          have n_D0 := Aside0.mk (below_drew1 D0.out)
          clear C3 C4 C6 H0 H1 D0
          have C3 := n_C3
          have C4 := n_C4
          have C6 := n_C6
          have H0 := n_H0
          have H1 := n_H1
          have D0 := n_D0
          clear n_C3 n_C4 n_C6 n_H0 n_H1 n_D0
          generalize World.drew _ = wR at C3 C4 C6 H0 H1 D0 hHeld ⊢
          refine pure_ (i := 0) (N := some 51) (v := ?_) (a' := ?_) #[true, false, false, false, false, false, false, false, false, false, false, false, false, false, false, false, false, false, false, false, false, false, false, false] rfl rfl (any_of HT_.out (by kernel_rfl)) (fun _ _ _ h => h) (Or.inl ⟨by rfl, ?_⟩) ?_ ?_
          rotate_left
          · intro w'
            go_simp
            with_reducible rfl
          rotate_left
          · simp only [Act.put, List.setIfInBounds_toArray, List.set_cons_zero, List.set_cons_succ, i64_w, i32_w]
            rfl
          refine take_ (i := 1) (N := some 52) (v := ?_) (a' := ?_) #[true, true, false, false, false, false, false, false, false, false, false, false, false, false, false, false, false, false, false, false, false, false, false, false] rfl rfl (take_ofW HT_.out HW_.out (by kernel_rfl)) (fun _ _ _ h => h) (Or.inl ⟨by rfl, ?_⟩) hHeld ?_ ?_
          rotate_left
          · rintro w' ⟨s0, s1, s2⟩
            have y0 : w'.cell? ⟨g6, 3, none⟩ = some (.bool true) := (blk_cell s2 3).trans rfl
            go_simp
            with_reducible rfl
          rotate_left
          · simp only [Act.put, List.setIfInBounds_toArray, List.set_cons_zero, List.set_cons_succ, i64_w, i32_w]
            rfl
          refine pure_ (i := 2) (N := some 53) (v := ?_) (a' := ?_) #[true, true, true, false, false, false, false, false, false, false, false, false, false, false, false, false, false, false, false, false, false, false, false, false] rfl rfl (any_of HT_.out (by kernel_rfl)) (fun _ _ _ h => h) (Or.inl ⟨by rfl, ?_⟩) ?_ ?_
          rotate_left
          · intro w'
            go_simp
            with_reducible rfl
          rotate_left
          · simp only [Act.put, List.setIfInBounds_toArray, List.set_cons_zero, List.set_cons_succ, i64_w, i32_w]
            rfl
          refine pure_ (i := 3) (N := some 54) (v := ?_) (a' := ?_) #[true, true, true, true, false, false, false, false, false, false, false, false, false, false, false, false, false, false, false, false, false, false, false, false] rfl rfl (any_of HT_.out (by kernel_rfl)) (fun _ _ _ h => h) (Or.inl ⟨by rfl, ?_⟩) ?_ ?_
          rotate_left
          · intro w'
            go_simp
            with_reducible rfl
          rotate_left
          · simp only [Act.put, List.setIfInBounds_toArray, List.set_cons_zero, List.set_cons_succ, i64_w, i32_w]
            rfl
          refine pure_ (i := 4) (N := some 55) (v := ?_) (a' := ?_) #[true, true, true, true, true, false, false, false, false, false, false, false, false, false, false, false, false, false, false, false, false, false, false, false] rfl rfl (any_of HT_.out (by kernel_rfl)) (fun _ _ _ h => h) (Or.inl ⟨by rfl, ?_⟩) ?_ ?_
          rotate_left
          · intro w'
            go_simp
            with_reducible rfl
          rotate_left
          · simp only [Act.put, List.setIfInBounds_toArray, List.set_cons_zero, List.set_cons_succ, i64_w, i32_w]
            rfl
          refine take_ (i := 5) (N := some 56) (v := ?_) (a' := ?_) #[true, true, true, true, true, true, false, false, false, false, false, false, false, false, false, false, false, false, false, false, false, false, false, false] rfl rfl (take_ofW HT_.out HW_.out (by kernel_rfl)) (fun _ _ _ h => h) (Or.inl ⟨by rfl, ?_⟩) hHeld ?_ ?_
          rotate_left
          · rintro w' ⟨s0, s1, s2⟩
            have y0 : w'.cell? ⟨g3, 0, none⟩ = some (.pointer (some ⟨g0, 0, none⟩)) := (blk_cell s0 0).trans rfl
            go_simp
            with_reducible rfl
          rotate_left
          · simp only [Act.put, List.setIfInBounds_toArray, List.set_cons_zero, List.set_cons_succ, i64_w, i32_w]
            rfl
          refine pure_ (i := 7) (N := some 58) (v := ?_) (a' := ?_) #[true, true, true, true, true, true, false, true, false, false, false, false, false, false, false, false, false, false, false, false, false, false, false, false] rfl rfl (any_of HT_.out (by kernel_rfl)) (fun _ _ _ h => h) (Or.inl ⟨by rfl, ?_⟩) ?_ ?_
          rotate_left
          · intro w'
            go_simp
            with_reducible rfl
          rotate_left
          · simp only [Act.put, List.setIfInBounds_toArray, List.set_cons_zero, List.set_cons_succ, i64_w, i32_w]
            rfl
          refine pure_ (i := 8) (N := some 59) (v := ?_) (a' := ?_) #[true, true, true, true, true, true, false, true, true, false, false, false, false, false, false, false, false, false, false, false, false, false, false, false] rfl rfl (any_of HT_.out (by kernel_rfl)) (fun _ _ _ h => h) (Or.inl ⟨by rfl, ?_⟩) ?_ ?_
          rotate_left
          · intro w'
            go_simp
            with_reducible rfl
          rotate_left
          · simp only [Act.put, List.setIfInBounds_toArray, List.set_cons_zero, List.set_cons_succ, i64_w, i32_w]
            rfl
          refine take_ (i := 9) (N := some 60) (v := ?_) (a' := ?_) #[true, true, true, true, true, true, false, true, true, true, false, false, false, false, false, false, false, false, false, false, false, false, false, false] rfl rfl (take_ofW HT_.out HW_.out (by kernel_rfl)) (fun _ _ _ h => h) (Or.inl ⟨by rfl, ?_⟩) hHeld ?_ ?_
          rotate_left
          · rintro w' ⟨s0, s1, s2⟩
            have y0 : w'.cell? ⟨g4, 0, none⟩ = some (.string (tx (L0 ++ b))) := (blk_cell s1 0).trans rfl
            go_simp
            with_reducible rfl
          rotate_left
          · simp only [Act.put, List.setIfInBounds_toArray, List.set_cons_zero, List.set_cons_succ, i64_w, i32_w]
            rfl
          refine one_ (i := 6) (N := some 57) #[true, true, true, true, true, true, true, true, true, true, false, false, false, false, false, false, false, false, false, false, false, false, false, false] rfl rfl (one_of HT_.out (by kernel_rfl)) (by decide) (fun K hK => ?_)
          refine goes_ Try.func15 (by kernel_rfl) rfl #[.pointer (some ⟨g0, 0, none⟩)] (by rfl) rfl rfl (by (try simp only [List.map_toArray, List.map_cons, List.map_nil]); first | done | rfl) ?_
          with_reducible refine (HSW _ H0.out).mono ?_
          rintro e wS3 ⟨rfl, hb⟩
          refine ⟨_, rfl, ?_⟩
          have n_C3 := Aside0.mk (blk_below C3.out hb)
          have n_C4 := Aside0.mk (blk_below C4.out hb)
          have n_C6 := Aside0.mk (blk_below C6.out hb)
          have n_H0 : Aside0 (Held g0 (L0 ++ b) _) := ⟨blk_below H0.out hb⟩
          have n_H1 : Aside0 (Held g1 L1 _) := ⟨blk_below H1.out hb⟩
          have n_D0 := Aside0.mk (below_then D0.out D0.out.size hb)
          clear C3 C4 C6 H0 H1 D0
          have C3 := n_C3
          have C4 := n_C4
          have C6 := n_C6
          have H0 := n_H0
          have H1 := n_H1
          have D0 := n_D0
          clear n_C3 n_C4 n_C6 n_H0 n_H1 n_D0
          clear hb
          refine hK.out _ _ ⟨C3.out, C4.out, C6.out⟩ (fun hHeld => ?_)
          clear hK K
          refine norm_ (a' := ?_) ?_ ?_
          rotate_left
          · show Act.put _ (some 57) _ = _
            simp only [Act.put, List.setIfInBounds_toArray, List.set_cons_zero, List.set_cons_succ, i64_w, i32_w]
            rfl
          refine one_ (i := 10) (N := some 61) #[true, true, true, true, true, true, true, true, true, true, true, false, false, false, false, false, false, false, false, false, false, false, false, false] rfl rfl (one_of HT_.out (by kernel_rfl)) (by decide) (fun K hK => ?_)
          refine goes_ Try.func12 (by kernel_rfl) rfl #[.string (tx (L0 ++ b))] (by rfl) rfl rfl (by (try simp only [List.map_toArray, List.map_cons, List.map_nil]); first | done | rfl) ?_
          with_reducible refine (HRS _).mono ?_
          rintro e wT3 ⟨rfl, hb⟩
          refine ⟨_, rfl, ?_⟩
          have n_C3 := Aside0.mk (blk_below C3.out hb)
          have n_C4 := Aside0.mk (blk_below C4.out hb)
          have n_C6 := Aside0.mk (blk_below C6.out hb)
          have n_H0 : Aside0 (Held g0 (L0 ++ b) _) := ⟨blk_below H0.out hb⟩
          have n_H1 : Aside0 (Held g1 L1 _) := ⟨blk_below H1.out hb⟩
          have n_D0 := Aside0.mk (below_then D0.out D0.out.size hb)
          clear C3 C4 C6 H0 H1 D0
          have C3 := n_C3
          have C4 := n_C4
          have C6 := n_C6
          have H0 := n_H0
          have H1 := n_H1
          have D0 := n_D0
          clear n_C3 n_C4 n_C6 n_H0 n_H1 n_D0
          clear hb
          refine hK.out _ _ ⟨C3.out, C4.out, C6.out⟩ (fun hHeld => ?_)
          clear hK K
          refine norm_ (a' := ?_) ?_ ?_
          rotate_left
          · show Act.put _ (some 61) _ = _
            simp only [Act.put, List.setIfInBounds_toArray, List.set_cons_zero, List.set_cons_succ, i64_w, i32_w]
            rfl
          refine pure_ (i := 11) (N := some 62) (v := ?_) (a' := ?_) #[true, true, true, true, true, true, true, true, true, true, true, true, false, false, false, false, false, false, false, false, false, false, false, false] rfl rfl (any_of HT_.out (by kernel_rfl)) (fun _ _ _ h => h) (Or.inl ⟨by rfl, ?_⟩) ?_ ?_
          rotate_left
          · intro w'
            go_simp
            with_reducible rfl
          rotate_left
          · simp only [Act.put, List.setIfInBounds_toArray, List.set_cons_zero, List.set_cons_succ, i64_w, i32_w]
            rfl
          refine pure_ (i := 12) (N := some 63) (v := ?_) (a' := ?_) #[true, true, true, true, true, true, true, true, true, true, true, true, true, false, false, false, false, false, false, false, false, false, false, false] rfl rfl (any_of HT_.out (by kernel_rfl)) (fun _ _ _ h => h) (Or.inl ⟨by rfl, ?_⟩) ?_ ?_
          rotate_left
          · intro w'
            go_simp
            with_reducible rfl
          rotate_left
          · simp only [Act.put, List.setIfInBounds_toArray, List.set_cons_zero, List.set_cons_succ, i64_w, i32_w]
            rfl
          refine pure_ (i := 13) (N := some 64) (v := ?_) (a' := ?_) #[true, true, true, true, true, true, true, true, true, true, true, true, true, true, false, false, false, false, false, false, false, false, false, false] rfl rfl (any_of HT_.out (by kernel_rfl)) (fun _ _ _ h => h) (Or.inl ⟨by rfl, ?_⟩) ?_ ?_
          rotate_left
          · intro w'
            go_simp
            with_reducible rfl
          rotate_left
          · simp only [Act.put, List.setIfInBounds_toArray, List.set_cons_zero, List.set_cons_succ, i64_w, i32_w]
            rfl
          refine pure_ (i := 14) (N := some 65) (v := ?_) (a' := ?_) #[true, true, true, true, true, true, true, true, true, true, true, true, true, true, true, false, false, false, false, false, false, false, false, false] rfl rfl (any_of HT_.out (by kernel_rfl)) (fun _ _ _ h => h) (Or.inl ⟨by rfl, ?_⟩) ?_ ?_
          rotate_left
          · intro w'
            go_simp
            with_reducible rfl
          rotate_left
          · simp only [Act.put, List.setIfInBounds_toArray, List.set_cons_zero, List.set_cons_succ, i64_w, i32_w]
            rfl
          refine take_ (i := 15) (N := some 66) (v := ?_) (a' := ?_) #[true, true, true, true, true, true, true, true, true, true, true, true, true, true, true, true, false, false, false, false, false, false, false, false] rfl rfl (take_ofW HT_.out HW_.out (by kernel_rfl)) (fun _ _ _ h => h) (Or.inl ⟨by rfl, ?_⟩) hHeld ?_ ?_
          rotate_left
          · rintro w' ⟨s0, s1, s2⟩
            have y0 : w'.cell? ⟨g3, 0, none⟩ = some (.pointer (some ⟨g0, 0, none⟩)) := (blk_cell s0 0).trans rfl
            go_simp
            with_reducible rfl
          rotate_left
          · simp only [Act.put, List.setIfInBounds_toArray, List.set_cons_zero, List.set_cons_succ, i64_w, i32_w]
            rfl
          refine pure_ (i := 17) (N := some 68) (v := ?_) (a' := ?_) #[true, true, true, true, true, true, true, true, true, true, true, true, true, true, true, true, false, true, false, false, false, false, false, false] rfl rfl (any_of HT_.out (by kernel_rfl)) (fun _ _ _ h => h) (Or.inl ⟨by rfl, ?_⟩) ?_ ?_
          rotate_left
          · intro w'
            go_simp
            with_reducible rfl
          rotate_left
          · simp only [Act.put, List.setIfInBounds_toArray, List.set_cons_zero, List.set_cons_succ, i64_w, i32_w]
            rfl
          refine pure_ (i := 18) (N := some 69) (v := ?_) (a' := ?_) #[true, true, true, true, true, true, true, true, true, true, true, true, true, true, true, true, false, true, true, false, false, false, false, false] rfl rfl (any_of HT_.out (by kernel_rfl)) (fun _ _ _ h => h) (Or.inl ⟨by rfl, ?_⟩) ?_ ?_
          rotate_left
          · intro w'
            go_simp
            with_reducible rfl
          rotate_left
          · simp only [Act.put, List.setIfInBounds_toArray, List.set_cons_zero, List.set_cons_succ, i64_w, i32_w]
            rfl
          refine take_ (i := 19) (N := some 70) (v := ?_) (a' := ?_) #[true, true, true, true, true, true, true, true, true, true, true, true, true, true, true, true, false, true, true, true, false, false, false, false] rfl rfl (take_ofW HT_.out HW_.out (by kernel_rfl)) (fun _ _ _ h => h) (Or.inl ⟨by rfl, ?_⟩) hHeld ?_ ?_
          rotate_left
          · rintro w' ⟨s0, s1, s2⟩
            have y0 : w'.cell? ⟨g4, 0, none⟩ = some (.string (tx (L0 ++ b))) := (blk_cell s1 0).trans rfl
            go_simp
            with_reducible rfl
          rotate_left
          · simp only [Act.put, List.setIfInBounds_toArray, List.set_cons_zero, List.set_cons_succ, i64_w, i32_w]
            rfl
          refine one_ (i := 16) (N := some 67) #[true, true, true, true, true, true, true, true, true, true, true, true, true, true, true, true, true, true, true, true, false, false, false, false] rfl rfl (one_of HT_.out (by kernel_rfl)) (by decide) (fun K hK => ?_)
          refine goes_ Try.func15 (by kernel_rfl) rfl #[.pointer (some ⟨g0, 0, none⟩)] (by rfl) rfl rfl (by (try simp only [List.map_toArray, List.map_cons, List.map_nil]); first | done | rfl) ?_
          with_reducible refine (HSW _ H0.out).mono ?_
          rintro e wS13 ⟨rfl, hb⟩
          refine ⟨_, rfl, ?_⟩
          have n_C3 := Aside0.mk (blk_below C3.out hb)
          have n_C4 := Aside0.mk (blk_below C4.out hb)
          have n_C6 := Aside0.mk (blk_below C6.out hb)
          have n_H0 : Aside0 (Held g0 (L0 ++ b) _) := ⟨blk_below H0.out hb⟩
          have n_H1 : Aside0 (Held g1 L1 _) := ⟨blk_below H1.out hb⟩
          have n_D0 := Aside0.mk (below_then D0.out D0.out.size hb)
          clear C3 C4 C6 H0 H1 D0
          have C3 := n_C3
          have C4 := n_C4
          have C6 := n_C6
          have H0 := n_H0
          have H1 := n_H1
          have D0 := n_D0
          clear n_C3 n_C4 n_C6 n_H0 n_H1 n_D0
          clear hb
          refine hK.out _ _ ⟨C3.out, C4.out, C6.out⟩ (fun hHeld => ?_)
          clear hK K
          refine norm_ (a' := ?_) ?_ ?_
          rotate_left
          · show Act.put _ (some 67) _ = _
            simp only [Act.put, List.setIfInBounds_toArray, List.set_cons_zero, List.set_cons_succ, i64_w, i32_w]
            rfl
          refine one_ (i := 20) (N := some 71) #[true, true, true, true, true, true, true, true, true, true, true, true, true, true, true, true, true, true, true, true, true, false, false, false] rfl rfl (one_of HT_.out (by kernel_rfl)) (by decide) (fun K hK => ?_)
          refine goes_ Try.func12 (by kernel_rfl) rfl #[.string (tx (L0 ++ b))] (by rfl) rfl rfl (by (try simp only [List.map_toArray, List.map_cons, List.map_nil]); first | done | rfl) ?_
          with_reducible refine (HRS _).mono ?_
          rintro e wT13 ⟨rfl, hb⟩
          refine ⟨_, rfl, ?_⟩
          have n_C3 := Aside0.mk (blk_below C3.out hb)
          have n_C4 := Aside0.mk (blk_below C4.out hb)
          have n_C6 := Aside0.mk (blk_below C6.out hb)
          have n_H0 : Aside0 (Held g0 (L0 ++ b) _) := ⟨blk_below H0.out hb⟩
          have n_H1 : Aside0 (Held g1 L1 _) := ⟨blk_below H1.out hb⟩
          have n_D0 := Aside0.mk (below_then D0.out D0.out.size hb)
          clear C3 C4 C6 H0 H1 D0
          have C3 := n_C3
          have C4 := n_C4
          have C6 := n_C6
          have H0 := n_H0
          have H1 := n_H1
          have D0 := n_D0
          clear n_C3 n_C4 n_C6 n_H0 n_H1 n_D0
          clear hb
          refine hK.out _ _ ⟨C3.out, C4.out, C6.out⟩ (fun hHeld => ?_)
          clear hK K
          refine norm_ (a' := ?_) ?_ ?_
          rotate_left
          · show Act.put _ (some 71) _ = _
            simp only [Act.put, List.setIfInBounds_toArray, List.set_cons_zero, List.set_cons_succ, i64_w, i32_w]
            rfl
          refine pure_ (i := 21) (N := some 72) (v := ?_) (a' := ?_) #[true, true, true, true, true, true, true, true, true, true, true, true, true, true, true, true, true, true, true, true, true, true, false, false] rfl rfl (any_of HT_.out (by kernel_rfl)) (fun _ _ _ h => h) (Or.inl ⟨by rfl, ?_⟩) ?_ ?_
          rotate_left
          · intro w'
            go_simp
            with_reducible rfl
          rotate_left
          · simp only [Act.put, List.setIfInBounds_toArray, List.set_cons_zero, List.set_cons_succ, i64_w, i32_w]
            rfl
          refine pure_ (i := 22) (N := some 73) (v := ?_) (a' := ?_) #[true, true, true, true, true, true, true, true, true, true, true, true, true, true, true, true, true, true, true, true, true, true, true, false] rfl rfl (any_of HT_.out (by kernel_rfl)) (fun _ _ _ h => h) (Or.inl ⟨by rfl, ?_⟩) ?_ ?_
          rotate_left
          · intro w'
            go_simp
            with_reducible rfl
          rotate_left
          · simp only [Act.put, List.setIfInBounds_toArray, List.set_cons_zero, List.set_cons_succ, i64_w, i32_w]
            rfl
          refine pure_ (i := 23) (N := some 74) (v := ?_) (a' := ?_) #[true, true, true, true, true, true, true, true, true, true, true, true, true, true, true, true, true, true, true, true, true, true, true, true] rfl rfl (any_of HT_.out (by kernel_rfl)) (fun _ _ _ h => h) (Or.inl ⟨by rfl, ?_⟩) ?_ ?_
          rotate_left
          · intro w'
            go_simp
            with_reducible rfl
          rotate_left
          · simp only [Act.put, List.setIfInBounds_toArray, List.set_cons_zero, List.set_cons_succ, i64_w, i32_w]
            rfl
          refine done_ (done_of HT_.out (by kernel_rfl)) ?_
          go_wp2
          go_roundw
          case rel => exact ⟨i + 1, (L0 ++ b), L1, by omega, by go_num, ⟨by rw [List.length_append]; exact HLQ.out, Nat.le_trans HL.out.2 (Nat.mul_le_mul_right _ (Nat.le_succ _))⟩, C3, C4, H0, H1, D0⟩
          case measure => simp [intOf]; omega
      · skip
        have HW : ∀ W : World, Held g1 L1 W → Calls Try.prog 14 #[.pointer (some ⟨g1, 0, none⟩), .string (tx b)] W fun e w' => e = .returned (.tuple #[]) ∧ Held g1 (L1 ++ b) w' ∧ Own g1 W w' := fun W h => held_write g1 L1 b W h (by have := HB.out; omega)
        have htr : tx L1 ++ tx b = tx (L1 ++ b) := tx_append L1 b
        have hs1 := tx_size L1
        have hs2 := tx_size b
        have HLQ : Aside0 (L1.length + b.length ≤ (i + 1) * 1048576) := ⟨by have := HL.out.2; have := HB.out; omega⟩
        have t1 : (L1.length + b.length ≤ 9223372036854775807) = True := eq_true (by have := HLQ.out; have := HI.out; omega)
        have t2 : (9223372036854775807 < L1.length + b.length) = False := eq_false (by have := HLQ.out; have := HI.out; omega)
        go_upto_region 17 with (first
          | (go_at_call 10; (with_reducible refine (HG _).mono ?_); rintro e w6 ⟨rfl, hb⟩; have n_C3 := Aside0.mk (blk_below C3.out hb); have n_C4 := Aside0.mk (blk_below C4.out hb); have n_C6 := Aside0.mk (blk_below C6.out hb); have n_H0 : Aside0 (Held g0 L0 _) := ⟨blk_below H0.out hb⟩; have n_H1 : Aside0 (Held g1 L1 _) := ⟨blk_below H1.out hb⟩; have n_D0 := Aside0.mk (below_then D0.out D0.out.size hb); clear C3 C4 C6 H0 H1 D0; have C3 := n_C3; have C4 := n_C4; have C6 := n_C6; have H0 := n_H0; have H1 := n_H1; have D0 := n_D0; clear n_C3 n_C4 n_C6 n_H0 n_H1 n_D0; clear hb; have y3 : w6.cell? ⟨g3, 1, none⟩ = some (.pointer (some ⟨g1, 0, none⟩)) := (blk_cell C3.out 1).trans rfl)
          | (go_at_call 14; (with_reducible refine (HW _ H1.out).mono ?_); rintro e w7 ⟨rfl, hh, hb⟩; have n_C3 := Aside0.mk (hb.other _ _ (by have := L1s.out; omega) C3.out); have n_C4 := Aside0.mk (hb.other _ _ (by have := L1s.out; have := N34.out; omega) C4.out); have n_C6 := Aside0.mk (hb.other _ _ (by have := L1s.out; have := N34.out; have := N46.out; omega) C6.out); have n_H0 : Aside0 (Held g0 L0 _) := ⟨hb.other _ _ (by have := N01.out; omega) H0.out⟩; have n_H1 : Aside0 (Held g1 (L1 ++ b) _) := ⟨hh⟩; have n_D0 := Aside0.mk (D0.out.trans (hb.below _ G1.out D0.out.size)); clear C3 C4 C6 H0 H1 D0; have C3 := n_C3; have C4 := n_C4; have C6 := n_C6; have H0 := n_H0; have H1 := n_H1; have D0 := n_D0; clear n_C3 n_C4 n_C6 n_H0 n_H1 n_D0; clear hh hb; have y4 : w7.cell? ⟨g4, 1, none⟩ = some (.string (tx L1)) := (blk_cell C4.out 1).trans rfl; have f4 := blk_frozen C4.out 1))
        change Code.wp _ _ _ _ (w7.setCell ⟨g4, 1, none⟩ (.string (tx (L1 ++ b))))
        have n_C3 := Aside0.mk (blk_far C3.out (p := ⟨g4, 1, none⟩) (by have := N34.out; show g3 ≠ g4; omega) (.string (tx (L1 ++ b))))
        have n_C4 := Aside0.mk (blk_put C4.out 1 (.string (tx (L1 ++ b))) rfl)
        have n_C6 := Aside0.mk (blk_far C6.out (p := ⟨g4, 1, none⟩) (by have := N46.out; show g6 ≠ g4; omega) (.string (tx (L1 ++ b))))
        have n_H0 : Aside0 (Held g0 L0 _) := ⟨blk_far H0.out (p := ⟨g4, 1, none⟩) (by have := L0s.out; have := N34.out; show g0 ≠ g4; omega) (.string (tx (L1 ++ b)))⟩
        have n_H1 : Aside0 (Held g1 (L1 ++ b) _) := ⟨blk_far H1.out (p := ⟨g4, 1, none⟩) (by have := L1s.out; have := N34.out; show g1 ≠ g4; omega) (.string (tx (L1 ++ b)))⟩
        have n_D0 := Aside0.mk (below_set' (v := .string (tx (L1 ++ b))) (j := 1) D0.out G4.out)
        clear C3 C4 C6 H0 H1 D0
        have C3 := n_C3
        have C4 := n_C4
        have C6 := n_C6
        have H0 := n_H0
        have H1 := n_H1
        have D0 := n_D0
        clear n_C3 n_C4 n_C6 n_H0 n_H1 n_D0
        generalize w7.setCell ⟨g4, 1, none⟩ (.string (tx (L1 ++ b))) = wC at C3 C4 C6 H0 H1 D0 ⊢
        have C4 : Aside0 (wC.heap[g4]? = some (.cells #[.string (tx L0), .string (tx (L1 ++ b))] 31 (0, 0))) := ⟨C4.out⟩
        have HL2 : Aside0 ((L1 ++ b).length ≤ 140737488355328) := ⟨by rw [List.length_append]; have := HLQ.out; have := HI.out; omega⟩
        have heq := eq32 (sumF (L1 ++ b)) (sumF (L1 ++ b)) (sumF_len _) (sumF_len _)
        rw [decide_eq_true rfl] at heq
        have HSW : ∀ W : World, Held g1 (L1 ++ b) W → Calls Try.prog 15 #[.pointer (some ⟨g1, 0, none⟩)] W fun e w' => e = .returned (B32 (sumF (L1 ++ b))) ∧ Below W.heap.size W w' := fun W h => held_sum g1 _ W h
        have HRS : ∀ W : World, Calls Try.prog 12 #[.string (tx (L1 ++ b))] W fun e w' => e = .returned (B32 (sumF (L1 ++ b))) ∧ Below W.heap.size W w' := fun W => rsum_calls (L1 ++ b) W HL2.out
        obtain ⟨V, hB⟩ : ∃ V, B32 (sumF (L1 ++ b)) = .agg V := ⟨_, rfl⟩
        rw [hB] at heq HSW HRS
        clear hB HW t1 t2 hs1 hs2 htr
        cases ask
        · skip
          refine start_ (n := 24) (S := fun W => W.heap[g3]? = some (.cells #[.pointer (some ⟨g0, 0, none⟩), .pointer (some ⟨g1, 0, none⟩)] 30 (0, 0)) ∧ W.heap[g4]? = some (.cells #[.string (tx L0), .string (tx (L1 ++ b))] 31 (0, 0)) ∧ W.heap[g6]? = some (.cells #[.bool true, .string sx, .int .i64 tm, .bool false] 33 (0, 0))) (ds := []) #[false, false, false, false, false, false, false, false, false, false, false, false, false, false, false, false, false, false, false, false, false, false, false, false] (by kernel_rfl) rfl rfl ⟨blk_drew C3.out, blk_drew C4.out, blk_drew C6.out⟩ (fun hHeld => ?_); refine with_tabW wr17.tab17 wr17.bits17 (fun HT_ HW_ => ?_)
          have n_C3 := Aside0.mk (blk_drew C3.out)
          have n_C4 := Aside0.mk (blk_drew C4.out)
          have n_C6 := Aside0.mk (blk_drew C6.out)
          have n_H0 : Aside0 (Held g0 L0 _) := ⟨blk_drew H0.out⟩
          have n_H1 : Aside0 (Held g1 (L1 ++ b) _) := ⟨blk_drew H1.out⟩
          have n_D0 := Aside0.mk (below_drew1 D0.out)
          clear C3 C4 C6 H0 H1 D0
          have C3 := n_C3
          have C4 := n_C4
          have C6 := n_C6
          have H0 := n_H0
          have H1 := n_H1
          have D0 := n_D0
          clear n_C3 n_C4 n_C6 n_H0 n_H1 n_D0
          generalize World.drew _ = wR at C3 C4 C6 H0 H1 D0 hHeld ⊢
          refine pure_ (i := 0) (N := some 51) (v := ?_) (a' := ?_) #[true, false, false, false, false, false, false, false, false, false, false, false, false, false, false, false, false, false, false, false, false, false, false, false] rfl rfl (any_of HT_.out (by kernel_rfl)) (fun _ _ _ h => h) (Or.inl ⟨by rfl, ?_⟩) ?_ ?_
          rotate_left
          · intro w'
            go_simp
            with_reducible rfl
          rotate_left
          · simp only [Act.put, List.setIfInBounds_toArray, List.set_cons_zero, List.set_cons_succ, i64_w, i32_w]
            rfl
          refine take_ (i := 1) (N := some 52) (v := ?_) (a' := ?_) #[true, true, false, false, false, false, false, false, false, false, false, false, false, false, false, false, false, false, false, false, false, false, false, false] rfl rfl (take_ofW HT_.out HW_.out (by kernel_rfl)) (fun _ _ _ h => h) (Or.inl ⟨by rfl, ?_⟩) hHeld ?_ ?_
          rotate_left
          · rintro w' ⟨s0, s1, s2⟩
            have y0 : w'.cell? ⟨g6, 3, none⟩ = some (.bool false) := (blk_cell s2 3).trans rfl
            go_simp
            with_reducible rfl
          rotate_left
          · simp only [Act.put, List.setIfInBounds_toArray, List.set_cons_zero, List.set_cons_succ, i64_w, i32_w]
            rfl
          refine pure_ (i := 2) (N := some 53) (v := ?_) (a' := ?_) #[true, true, true, false, false, false, false, false, false, false, false, false, false, false, false, false, false, false, false, false, false, false, false, false] rfl rfl (any_of HT_.out (by kernel_rfl)) (fun _ _ _ h => h) (Or.inl ⟨by rfl, ?_⟩) ?_ ?_
          rotate_left
          · intro w'
            go_simp
            with_reducible rfl
          rotate_left
          · simp only [Act.put, List.setIfInBounds_toArray, List.set_cons_zero, List.set_cons_succ, i64_w, i32_w]
            rfl
          refine pure_ (i := 3) (N := some 54) (v := undef) (a' := ?_) #[true, true, true, true, false, false, false, false, false, false, false, false, false, false, false, false, false, false, false, false, false, false, false, false] rfl rfl (any_of HT_.out (by kernel_rfl)) (fun _ _ _ h => h) (Or.inr ⟨by rfl, rfl⟩) ?_ ?_
          rotate_left
          · simp only [Act.put, List.setIfInBounds_toArray, List.set_cons_zero, List.set_cons_succ, i64_w, i32_w]
            rfl
          refine pure_ (i := 4) (N := some 55) (v := undef) (a' := ?_) #[true, true, true, true, true, false, false, false, false, false, false, false, false, false, false, false, false, false, false, false, false, false, false, false] rfl rfl (any_of HT_.out (by kernel_rfl)) (fun _ _ _ h => h) (Or.inr ⟨by rfl, rfl⟩) ?_ ?_
          rotate_left
          · simp only [Act.put, List.setIfInBounds_toArray, List.set_cons_zero, List.set_cons_succ, i64_w, i32_w]
            rfl
          refine pure_ (i := 5) (N := some 56) (v := undef) (a' := ?_) #[true, true, true, true, true, true, false, false, false, false, false, false, false, false, false, false, false, false, false, false, false, false, false, false] rfl rfl (any_of HT_.out (by kernel_rfl)) (fun _ _ _ h => h) (Or.inr ⟨by rfl, rfl⟩) ?_ ?_
          rotate_left
          · simp only [Act.put, List.setIfInBounds_toArray, List.set_cons_zero, List.set_cons_succ, i64_w, i32_w]
            rfl
          refine pure_ (i := 6) (N := some 57) (v := undef) (a' := ?_) #[true, true, true, true, true, true, true, false, false, false, false, false, false, false, false, false, false, false, false, false, false, false, false, false] rfl rfl (any_of HT_.out (by kernel_rfl)) (fun _ _ _ h => h) (Or.inr ⟨by rfl, rfl⟩) ?_ ?_
          rotate_left
          · simp only [Act.put, List.setIfInBounds_toArray, List.set_cons_zero, List.set_cons_succ, i64_w, i32_w]
            rfl
          refine pure_ (i := 7) (N := some 58) (v := undef) (a' := ?_) #[true, true, true, true, true, true, true, true, false, false, false, false, false, false, false, false, false, false, false, false, false, false, false, false] rfl rfl (any_of HT_.out (by kernel_rfl)) (fun _ _ _ h => h) (Or.inr ⟨by rfl, rfl⟩) ?_ ?_
          rotate_left
          · simp only [Act.put, List.setIfInBounds_toArray, List.set_cons_zero, List.set_cons_succ, i64_w, i32_w]
            rfl
          refine pure_ (i := 8) (N := some 59) (v := undef) (a' := ?_) #[true, true, true, true, true, true, true, true, true, false, false, false, false, false, false, false, false, false, false, false, false, false, false, false] rfl rfl (any_of HT_.out (by kernel_rfl)) (fun _ _ _ h => h) (Or.inr ⟨by rfl, rfl⟩) ?_ ?_
          rotate_left
          · simp only [Act.put, List.setIfInBounds_toArray, List.set_cons_zero, List.set_cons_succ, i64_w, i32_w]
            rfl
          refine pure_ (i := 9) (N := some 60) (v := undef) (a' := ?_) #[true, true, true, true, true, true, true, true, true, true, false, false, false, false, false, false, false, false, false, false, false, false, false, false] rfl rfl (any_of HT_.out (by kernel_rfl)) (fun _ _ _ h => h) (Or.inr ⟨by rfl, rfl⟩) ?_ ?_
          rotate_left
          · simp only [Act.put, List.setIfInBounds_toArray, List.set_cons_zero, List.set_cons_succ, i64_w, i32_w]
            rfl
          refine pure_ (i := 10) (N := some 61) (v := undef) (a' := ?_) #[true, true, true, true, true, true, true, true, true, true, true, false, false, false, false, false, false, false, false, false, false, false, false, false] rfl rfl (any_of HT_.out (by kernel_rfl)) (fun _ _ _ h => h) (Or.inr ⟨by rfl, rfl⟩) ?_ ?_
          rotate_left
          · simp only [Act.put, List.setIfInBounds_toArray, List.set_cons_zero, List.set_cons_succ, i64_w, i32_w]
            rfl
          refine pure_ (i := 11) (N := some 62) (v := undef) (a' := ?_) #[true, true, true, true, true, true, true, true, true, true, true, true, false, false, false, false, false, false, false, false, false, false, false, false] rfl rfl (any_of HT_.out (by kernel_rfl)) (fun _ _ _ h => h) (Or.inr ⟨by rfl, rfl⟩) ?_ ?_
          rotate_left
          · simp only [Act.put, List.setIfInBounds_toArray, List.set_cons_zero, List.set_cons_succ, i64_w, i32_w]
            rfl
          refine pure_ (i := 12) (N := some 63) (v := undef) (a' := ?_) #[true, true, true, true, true, true, true, true, true, true, true, true, true, false, false, false, false, false, false, false, false, false, false, false] rfl rfl (any_of HT_.out (by kernel_rfl)) (fun _ _ _ h => h) (Or.inr ⟨by rfl, rfl⟩) ?_ ?_
          rotate_left
          · simp only [Act.put, List.setIfInBounds_toArray, List.set_cons_zero, List.set_cons_succ, i64_w, i32_w]
            rfl
          refine pure_ (i := 13) (N := some 64) (v := undef) (a' := ?_) #[true, true, true, true, true, true, true, true, true, true, true, true, true, true, false, false, false, false, false, false, false, false, false, false] rfl rfl (any_of HT_.out (by kernel_rfl)) (fun _ _ _ h => h) (Or.inr ⟨by rfl, rfl⟩) ?_ ?_
          rotate_left
          · simp only [Act.put, List.setIfInBounds_toArray, List.set_cons_zero, List.set_cons_succ, i64_w, i32_w]
            rfl
          refine pure_ (i := 14) (N := some 65) (v := undef) (a' := ?_) #[true, true, true, true, true, true, true, true, true, true, true, true, true, true, true, false, false, false, false, false, false, false, false, false] rfl rfl (any_of HT_.out (by kernel_rfl)) (fun _ _ _ h => h) (Or.inr ⟨by rfl, rfl⟩) ?_ ?_
          rotate_left
          · simp only [Act.put, List.setIfInBounds_toArray, List.set_cons_zero, List.set_cons_succ, i64_w, i32_w]
            rfl
          refine pure_ (i := 15) (N := some 66) (v := undef) (a' := ?_) #[true, true, true, true, true, true, true, true, true, true, true, true, true, true, true, true, false, false, false, false, false, false, false, false] rfl rfl (any_of HT_.out (by kernel_rfl)) (fun _ _ _ h => h) (Or.inr ⟨by rfl, rfl⟩) ?_ ?_
          rotate_left
          · simp only [Act.put, List.setIfInBounds_toArray, List.set_cons_zero, List.set_cons_succ, i64_w, i32_w]
            rfl
          refine pure_ (i := 16) (N := some 67) (v := undef) (a' := ?_) #[true, true, true, true, true, true, true, true, true, true, true, true, true, true, true, true, true, false, false, false, false, false, false, false] rfl rfl (any_of HT_.out (by kernel_rfl)) (fun _ _ _ h => h) (Or.inr ⟨by rfl, rfl⟩) ?_ ?_
          rotate_left
          · simp only [Act.put, List.setIfInBounds_toArray, List.set_cons_zero, List.set_cons_succ, i64_w, i32_w]
            rfl
          refine pure_ (i := 17) (N := some 68) (v := undef) (a' := ?_) #[true, true, true, true, true, true, true, true, true, true, true, true, true, true, true, true, true, true, false, false, false, false, false, false] rfl rfl (any_of HT_.out (by kernel_rfl)) (fun _ _ _ h => h) (Or.inr ⟨by rfl, rfl⟩) ?_ ?_
          rotate_left
          · simp only [Act.put, List.setIfInBounds_toArray, List.set_cons_zero, List.set_cons_succ, i64_w, i32_w]
            rfl
          refine pure_ (i := 18) (N := some 69) (v := undef) (a' := ?_) #[true, true, true, true, true, true, true, true, true, true, true, true, true, true, true, true, true, true, true, false, false, false, false, false] rfl rfl (any_of HT_.out (by kernel_rfl)) (fun _ _ _ h => h) (Or.inr ⟨by rfl, rfl⟩) ?_ ?_
          rotate_left
          · simp only [Act.put, List.setIfInBounds_toArray, List.set_cons_zero, List.set_cons_succ, i64_w, i32_w]
            rfl
          refine pure_ (i := 19) (N := some 70) (v := undef) (a' := ?_) #[true, true, true, true, true, true, true, true, true, true, true, true, true, true, true, true, true, true, true, true, false, false, false, false] rfl rfl (any_of HT_.out (by kernel_rfl)) (fun _ _ _ h => h) (Or.inr ⟨by rfl, rfl⟩) ?_ ?_
          rotate_left
          · simp only [Act.put, List.setIfInBounds_toArray, List.set_cons_zero, List.set_cons_succ, i64_w, i32_w]
            rfl
          refine pure_ (i := 20) (N := some 71) (v := undef) (a' := ?_) #[true, true, true, true, true, true, true, true, true, true, true, true, true, true, true, true, true, true, true, true, true, false, false, false] rfl rfl (any_of HT_.out (by kernel_rfl)) (fun _ _ _ h => h) (Or.inr ⟨by rfl, rfl⟩) ?_ ?_
          rotate_left
          · simp only [Act.put, List.setIfInBounds_toArray, List.set_cons_zero, List.set_cons_succ, i64_w, i32_w]
            rfl
          refine pure_ (i := 21) (N := some 72) (v := undef) (a' := ?_) #[true, true, true, true, true, true, true, true, true, true, true, true, true, true, true, true, true, true, true, true, true, true, false, false] rfl rfl (any_of HT_.out (by kernel_rfl)) (fun _ _ _ h => h) (Or.inr ⟨by rfl, rfl⟩) ?_ ?_
          rotate_left
          · simp only [Act.put, List.setIfInBounds_toArray, List.set_cons_zero, List.set_cons_succ, i64_w, i32_w]
            rfl
          refine pure_ (i := 22) (N := some 73) (v := undef) (a' := ?_) #[true, true, true, true, true, true, true, true, true, true, true, true, true, true, true, true, true, true, true, true, true, true, true, false] rfl rfl (any_of HT_.out (by kernel_rfl)) (fun _ _ _ h => h) (Or.inr ⟨by rfl, rfl⟩) ?_ ?_
          rotate_left
          · simp only [Act.put, List.setIfInBounds_toArray, List.set_cons_zero, List.set_cons_succ, i64_w, i32_w]
            rfl
          refine pure_ (i := 23) (N := some 74) (v := ?_) (a' := ?_) #[true, true, true, true, true, true, true, true, true, true, true, true, true, true, true, true, true, true, true, true, true, true, true, true] rfl rfl (any_of HT_.out (by kernel_rfl)) (fun _ _ _ h => h) (Or.inl ⟨by rfl, ?_⟩) ?_ ?_
          rotate_left
          · intro w'
            go_simp
            with_reducible rfl
          rotate_left
          · simp only [Act.put, List.setIfInBounds_toArray, List.set_cons_zero, List.set_cons_succ, i64_w, i32_w]
            rfl
          refine done_ (done_of HT_.out (by kernel_rfl)) ?_
          go_wp2
          go_roundw
          case rel => exact ⟨i + 1, L0, (L1 ++ b), by omega, by go_num, ⟨Nat.le_trans HL.out.1 (Nat.mul_le_mul_right _ (Nat.le_succ _)), by rw [List.length_append]; exact HLQ.out⟩, C3, C4, H0, H1, D0⟩
          case measure => simp [intOf]; omega
        · skip
          refine start_ (n := 24) (S := fun W => W.heap[g3]? = some (.cells #[.pointer (some ⟨g0, 0, none⟩), .pointer (some ⟨g1, 0, none⟩)] 30 (0, 0)) ∧ W.heap[g4]? = some (.cells #[.string (tx L0), .string (tx (L1 ++ b))] 31 (0, 0)) ∧ W.heap[g6]? = some (.cells #[.bool true, .string sx, .int .i64 tm, .bool true] 33 (0, 0))) (ds := []) #[false, false, false, false, false, false, false, false, false, false, false, false, false, false, false, false, false, false, false, false, false, false, false, false] (by kernel_rfl) rfl rfl ⟨blk_drew C3.out, blk_drew C4.out, blk_drew C6.out⟩ (fun hHeld => ?_); refine with_tabW wr17.tab17 wr17.bits17 (fun HT_ HW_ => ?_)
          have n_C3 := Aside0.mk (blk_drew C3.out)
          have n_C4 := Aside0.mk (blk_drew C4.out)
          have n_C6 := Aside0.mk (blk_drew C6.out)
          have n_H0 : Aside0 (Held g0 L0 _) := ⟨blk_drew H0.out⟩
          have n_H1 : Aside0 (Held g1 (L1 ++ b) _) := ⟨blk_drew H1.out⟩
          have n_D0 := Aside0.mk (below_drew1 D0.out)
          clear C3 C4 C6 H0 H1 D0
          have C3 := n_C3
          have C4 := n_C4
          have C6 := n_C6
          have H0 := n_H0
          have H1 := n_H1
          have D0 := n_D0
          clear n_C3 n_C4 n_C6 n_H0 n_H1 n_D0
          generalize World.drew _ = wR at C3 C4 C6 H0 H1 D0 hHeld ⊢
          refine pure_ (i := 0) (N := some 51) (v := ?_) (a' := ?_) #[true, false, false, false, false, false, false, false, false, false, false, false, false, false, false, false, false, false, false, false, false, false, false, false] rfl rfl (any_of HT_.out (by kernel_rfl)) (fun _ _ _ h => h) (Or.inl ⟨by rfl, ?_⟩) ?_ ?_
          rotate_left
          · intro w'
            go_simp
            with_reducible rfl
          rotate_left
          · simp only [Act.put, List.setIfInBounds_toArray, List.set_cons_zero, List.set_cons_succ, i64_w, i32_w]
            rfl
          refine take_ (i := 1) (N := some 52) (v := ?_) (a' := ?_) #[true, true, false, false, false, false, false, false, false, false, false, false, false, false, false, false, false, false, false, false, false, false, false, false] rfl rfl (take_ofW HT_.out HW_.out (by kernel_rfl)) (fun _ _ _ h => h) (Or.inl ⟨by rfl, ?_⟩) hHeld ?_ ?_
          rotate_left
          · rintro w' ⟨s0, s1, s2⟩
            have y0 : w'.cell? ⟨g6, 3, none⟩ = some (.bool true) := (blk_cell s2 3).trans rfl
            go_simp
            with_reducible rfl
          rotate_left
          · simp only [Act.put, List.setIfInBounds_toArray, List.set_cons_zero, List.set_cons_succ, i64_w, i32_w]
            rfl
          refine pure_ (i := 2) (N := some 53) (v := ?_) (a' := ?_) #[true, true, true, false, false, false, false, false, false, false, false, false, false, false, false, false, false, false, false, false, false, false, false, false] rfl rfl (any_of HT_.out (by kernel_rfl)) (fun _ _ _ h => h) (Or.inl ⟨by rfl, ?_⟩) ?_ ?_
          rotate_left
          · intro w'
            go_simp
            with_reducible rfl
          rotate_left
          · simp only [Act.put, List.setIfInBounds_toArray, List.set_cons_zero, List.set_cons_succ, i64_w, i32_w]
            rfl
          refine pure_ (i := 3) (N := some 54) (v := ?_) (a' := ?_) #[true, true, true, true, false, false, false, false, false, false, false, false, false, false, false, false, false, false, false, false, false, false, false, false] rfl rfl (any_of HT_.out (by kernel_rfl)) (fun _ _ _ h => h) (Or.inl ⟨by rfl, ?_⟩) ?_ ?_
          rotate_left
          · intro w'
            go_simp
            with_reducible rfl
          rotate_left
          · simp only [Act.put, List.setIfInBounds_toArray, List.set_cons_zero, List.set_cons_succ, i64_w, i32_w]
            rfl
          refine pure_ (i := 4) (N := some 55) (v := ?_) (a' := ?_) #[true, true, true, true, true, false, false, false, false, false, false, false, false, false, false, false, false, false, false, false, false, false, false, false] rfl rfl (any_of HT_.out (by kernel_rfl)) (fun _ _ _ h => h) (Or.inl ⟨by rfl, ?_⟩) ?_ ?_
          rotate_left
          · intro w'
            go_simp
            with_reducible rfl
          rotate_left
          · simp only [Act.put, List.setIfInBounds_toArray, List.set_cons_zero, List.set_cons_succ, i64_w, i32_w]
            rfl
          refine take_ (i := 5) (N := some 56) (v := ?_) (a' := ?_) #[true, true, true, true, true, true, false, false, false, false, false, false, false, false, false, false, false, false, false, false, false, false, false, false] rfl rfl (take_ofW HT_.out HW_.out (by kernel_rfl)) (fun _ _ _ h => h) (Or.inl ⟨by rfl, ?_⟩) hHeld ?_ ?_
          rotate_left
          · rintro w' ⟨s0, s1, s2⟩
            have y0 : w'.cell? ⟨g3, 1, none⟩ = some (.pointer (some ⟨g1, 0, none⟩)) := (blk_cell s0 1).trans rfl
            go_simp
            with_reducible rfl
          rotate_left
          · simp only [Act.put, List.setIfInBounds_toArray, List.set_cons_zero, List.set_cons_succ, i64_w, i32_w]
            rfl
          refine pure_ (i := 7) (N := some 58) (v := ?_) (a' := ?_) #[true, true, true, true, true, true, false, true, false, false, false, false, false, false, false, false, false, false, false, false, false, false, false, false] rfl rfl (any_of HT_.out (by kernel_rfl)) (fun _ _ _ h => h) (Or.inl ⟨by rfl, ?_⟩) ?_ ?_
          rotate_left
          · intro w'
            go_simp
            with_reducible rfl
          rotate_left
          · simp only [Act.put, List.setIfInBounds_toArray, List.set_cons_zero, List.set_cons_succ, i64_w, i32_w]
            rfl
          refine pure_ (i := 8) (N := some 59) (v := ?_) (a' := ?_) #[true, true, true, true, true, true, false, true, true, false, false, false, false, false, false, false, false, false, false, false, false, false, false, false] rfl rfl (any_of HT_.out (by kernel_rfl)) (fun _ _ _ h => h) (Or.inl ⟨by rfl, ?_⟩) ?_ ?_
          rotate_left
          · intro w'
            go_simp
            with_reducible rfl
          rotate_left
          · simp only [Act.put, List.setIfInBounds_toArray, List.set_cons_zero, List.set_cons_succ, i64_w, i32_w]
            rfl
          refine take_ (i := 9) (N := some 60) (v := ?_) (a' := ?_) #[true, true, true, true, true, true, false, true, true, true, false, false, false, false, false, false, false, false, false, false, false, false, false, false] rfl rfl (take_ofW HT_.out HW_.out (by kernel_rfl)) (fun _ _ _ h => h) (Or.inl ⟨by rfl, ?_⟩) hHeld ?_ ?_
          rotate_left
          · rintro w' ⟨s0, s1, s2⟩
            have y0 : w'.cell? ⟨g4, 1, none⟩ = some (.string (tx (L1 ++ b))) := (blk_cell s1 1).trans rfl
            go_simp
            with_reducible rfl
          rotate_left
          · simp only [Act.put, List.setIfInBounds_toArray, List.set_cons_zero, List.set_cons_succ, i64_w, i32_w]
            rfl
          refine one_ (i := 6) (N := some 57) #[true, true, true, true, true, true, true, true, true, true, false, false, false, false, false, false, false, false, false, false, false, false, false, false] rfl rfl (one_of HT_.out (by kernel_rfl)) (by decide) (fun K hK => ?_)
          refine goes_ Try.func15 (by kernel_rfl) rfl #[.pointer (some ⟨g1, 0, none⟩)] (by rfl) rfl rfl (by (try simp only [List.map_toArray, List.map_cons, List.map_nil]); first | done | rfl) ?_
          with_reducible refine (HSW _ H1.out).mono ?_
          rintro e wS3 ⟨rfl, hb⟩
          refine ⟨_, rfl, ?_⟩
          have n_C3 := Aside0.mk (blk_below C3.out hb)
          have n_C4 := Aside0.mk (blk_below C4.out hb)
          have n_C6 := Aside0.mk (blk_below C6.out hb)
          have n_H0 : Aside0 (Held g0 L0 _) := ⟨blk_below H0.out hb⟩
          have n_H1 : Aside0 (Held g1 (L1 ++ b) _) := ⟨blk_below H1.out hb⟩
          have n_D0 := Aside0.mk (below_then D0.out D0.out.size hb)
          clear C3 C4 C6 H0 H1 D0
          have C3 := n_C3
          have C4 := n_C4
          have C6 := n_C6
          have H0 := n_H0
          have H1 := n_H1
          have D0 := n_D0
          clear n_C3 n_C4 n_C6 n_H0 n_H1 n_D0
          clear hb
          refine hK.out _ _ ⟨C3.out, C4.out, C6.out⟩ (fun hHeld => ?_)
          clear hK K
          refine norm_ (a' := ?_) ?_ ?_
          rotate_left
          · show Act.put _ (some 57) _ = _
            simp only [Act.put, List.setIfInBounds_toArray, List.set_cons_zero, List.set_cons_succ, i64_w, i32_w]
            rfl
          refine one_ (i := 10) (N := some 61) #[true, true, true, true, true, true, true, true, true, true, true, false, false, false, false, false, false, false, false, false, false, false, false, false] rfl rfl (one_of HT_.out (by kernel_rfl)) (by decide) (fun K hK => ?_)
          refine goes_ Try.func12 (by kernel_rfl) rfl #[.string (tx (L1 ++ b))] (by rfl) rfl rfl (by (try simp only [List.map_toArray, List.map_cons, List.map_nil]); first | done | rfl) ?_
          with_reducible refine (HRS _).mono ?_
          rintro e wT3 ⟨rfl, hb⟩
          refine ⟨_, rfl, ?_⟩
          have n_C3 := Aside0.mk (blk_below C3.out hb)
          have n_C4 := Aside0.mk (blk_below C4.out hb)
          have n_C6 := Aside0.mk (blk_below C6.out hb)
          have n_H0 : Aside0 (Held g0 L0 _) := ⟨blk_below H0.out hb⟩
          have n_H1 : Aside0 (Held g1 (L1 ++ b) _) := ⟨blk_below H1.out hb⟩
          have n_D0 := Aside0.mk (below_then D0.out D0.out.size hb)
          clear C3 C4 C6 H0 H1 D0
          have C3 := n_C3
          have C4 := n_C4
          have C6 := n_C6
          have H0 := n_H0
          have H1 := n_H1
          have D0 := n_D0
          clear n_C3 n_C4 n_C6 n_H0 n_H1 n_D0
          clear hb
          refine hK.out _ _ ⟨C3.out, C4.out, C6.out⟩ (fun hHeld => ?_)
          clear hK K
          refine norm_ (a' := ?_) ?_ ?_
          rotate_left
          · show Act.put _ (some 61) _ = _
            simp only [Act.put, List.setIfInBounds_toArray, List.set_cons_zero, List.set_cons_succ, i64_w, i32_w]
            rfl
          refine pure_ (i := 11) (N := some 62) (v := ?_) (a' := ?_) #[true, true, true, true, true, true, true, true, true, true, true, true, false, false, false, false, false, false, false, false, false, false, false, false] rfl rfl (any_of HT_.out (by kernel_rfl)) (fun _ _ _ h => h) (Or.inl ⟨by rfl, ?_⟩) ?_ ?_
          rotate_left
          · intro w'
            go_simp
            with_reducible rfl
          rotate_left
          · simp only [Act.put, List.setIfInBounds_toArray, List.set_cons_zero, List.set_cons_succ, i64_w, i32_w]
            rfl
          refine pure_ (i := 12) (N := some 63) (v := ?_) (a' := ?_) #[true, true, true, true, true, true, true, true, true, true, true, true, true, false, false, false, false, false, false, false, false, false, false, false] rfl rfl (any_of HT_.out (by kernel_rfl)) (fun _ _ _ h => h) (Or.inl ⟨by rfl, ?_⟩) ?_ ?_
          rotate_left
          · intro w'
            go_simp
            with_reducible rfl
          rotate_left
          · simp only [Act.put, List.setIfInBounds_toArray, List.set_cons_zero, List.set_cons_succ, i64_w, i32_w]
            rfl
          refine pure_ (i := 13) (N := some 64) (v := ?_) (a' := ?_) #[true, true, true, true, true, true, true, true, true, true, true, true, true, true, false, false, false, false, false, false, false, false, false, false] rfl rfl (any_of HT_.out (by kernel_rfl)) (fun _ _ _ h => h) (Or.inl ⟨by rfl, ?_⟩) ?_ ?_
          rotate_left
          · intro w'
            go_simp
            with_reducible rfl
          rotate_left
          · simp only [Act.put, List.setIfInBounds_toArray, List.set_cons_zero, List.set_cons_succ, i64_w, i32_w]
            rfl
          refine pure_ (i := 14) (N := some 65) (v := ?_) (a' := ?_) #[true, true, true, true, true, true, true, true, true, true, true, true, true, true, true, false, false, false, false, false, false, false, false, false] rfl rfl (any_of HT_.out (by kernel_rfl)) (fun _ _ _ h => h) (Or.inl ⟨by rfl, ?_⟩) ?_ ?_
          rotate_left
          · intro w'
            go_simp
            with_reducible rfl
          rotate_left
          · simp only [Act.put, List.setIfInBounds_toArray, List.set_cons_zero, List.set_cons_succ, i64_w, i32_w]
            rfl
          refine take_ (i := 15) (N := some 66) (v := ?_) (a' := ?_) #[true, true, true, true, true, true, true, true, true, true, true, true, true, true, true, true, false, false, false, false, false, false, false, false] rfl rfl (take_ofW HT_.out HW_.out (by kernel_rfl)) (fun _ _ _ h => h) (Or.inl ⟨by rfl, ?_⟩) hHeld ?_ ?_
          rotate_left
          · rintro w' ⟨s0, s1, s2⟩
            have y0 : w'.cell? ⟨g3, 1, none⟩ = some (.pointer (some ⟨g1, 0, none⟩)) := (blk_cell s0 1).trans rfl
            go_simp
            with_reducible rfl
          rotate_left
          · simp only [Act.put, List.setIfInBounds_toArray, List.set_cons_zero, List.set_cons_succ, i64_w, i32_w]
            rfl
          refine pure_ (i := 17) (N := some 68) (v := ?_) (a' := ?_) #[true, true, true, true, true, true, true, true, true, true, true, true, true, true, true, true, false, true, false, false, false, false, false, false] rfl rfl (any_of HT_.out (by kernel_rfl)) (fun _ _ _ h => h) (Or.inl ⟨by rfl, ?_⟩) ?_ ?_
          rotate_left
          · intro w'
            go_simp
            with_reducible rfl
          rotate_left
          · simp only [Act.put, List.setIfInBounds_toArray, List.set_cons_zero, List.set_cons_succ, i64_w, i32_w]
            rfl
          refine pure_ (i := 18) (N := some 69) (v := ?_) (a' := ?_) #[true, true, true, true, true, true, true, true, true, true, true, true, true, true, true, true, false, true, true, false, false, false, false, false] rfl rfl (any_of HT_.out (by kernel_rfl)) (fun _ _ _ h => h) (Or.inl ⟨by rfl, ?_⟩) ?_ ?_
          rotate_left
          · intro w'
            go_simp
            with_reducible rfl
          rotate_left
          · simp only [Act.put, List.setIfInBounds_toArray, List.set_cons_zero, List.set_cons_succ, i64_w, i32_w]
            rfl
          refine take_ (i := 19) (N := some 70) (v := ?_) (a' := ?_) #[true, true, true, true, true, true, true, true, true, true, true, true, true, true, true, true, false, true, true, true, false, false, false, false] rfl rfl (take_ofW HT_.out HW_.out (by kernel_rfl)) (fun _ _ _ h => h) (Or.inl ⟨by rfl, ?_⟩) hHeld ?_ ?_
          rotate_left
          · rintro w' ⟨s0, s1, s2⟩
            have y0 : w'.cell? ⟨g4, 1, none⟩ = some (.string (tx (L1 ++ b))) := (blk_cell s1 1).trans rfl
            go_simp
            with_reducible rfl
          rotate_left
          · simp only [Act.put, List.setIfInBounds_toArray, List.set_cons_zero, List.set_cons_succ, i64_w, i32_w]
            rfl
          refine one_ (i := 16) (N := some 67) #[true, true, true, true, true, true, true, true, true, true, true, true, true, true, true, true, true, true, true, true, false, false, false, false] rfl rfl (one_of HT_.out (by kernel_rfl)) (by decide) (fun K hK => ?_)
          refine goes_ Try.func15 (by kernel_rfl) rfl #[.pointer (some ⟨g1, 0, none⟩)] (by rfl) rfl rfl (by (try simp only [List.map_toArray, List.map_cons, List.map_nil]); first | done | rfl) ?_
          with_reducible refine (HSW _ H1.out).mono ?_
          rintro e wS13 ⟨rfl, hb⟩
          refine ⟨_, rfl, ?_⟩
          have n_C3 := Aside0.mk (blk_below C3.out hb)
          have n_C4 := Aside0.mk (blk_below C4.out hb)
          have n_C6 := Aside0.mk (blk_below C6.out hb)
          have n_H0 : Aside0 (Held g0 L0 _) := ⟨blk_below H0.out hb⟩
          have n_H1 : Aside0 (Held g1 (L1 ++ b) _) := ⟨blk_below H1.out hb⟩
          have n_D0 := Aside0.mk (below_then D0.out D0.out.size hb)
          clear C3 C4 C6 H0 H1 D0
          have C3 := n_C3
          have C4 := n_C4
          have C6 := n_C6
          have H0 := n_H0
          have H1 := n_H1
          have D0 := n_D0
          clear n_C3 n_C4 n_C6 n_H0 n_H1 n_D0
          clear hb
          refine hK.out _ _ ⟨C3.out, C4.out, C6.out⟩ (fun hHeld => ?_)
          clear hK K
          refine norm_ (a' := ?_) ?_ ?_
          rotate_left
          · show Act.put _ (some 67) _ = _
            simp only [Act.put, List.setIfInBounds_toArray, List.set_cons_zero, List.set_cons_succ, i64_w, i32_w]
            rfl
          refine one_ (i := 20) (N := some 71) #[true, true, true, true, true, true, true, true, true, true, true, true, true, true, true, true, true, true, true, true, true, false, false, false] rfl rfl (one_of HT_.out (by kernel_rfl)) (by decide) (fun K hK => ?_)
          refine goes_ Try.func12 (by kernel_rfl) rfl #[.string (tx (L1 ++ b))] (by rfl) rfl rfl (by (try simp only [List.map_toArray, List.map_cons, List.map_nil]); first | done | rfl) ?_
          with_reducible refine (HRS _).mono ?_
          rintro e wT13 ⟨rfl, hb⟩
          refine ⟨_, rfl, ?_⟩
          have n_C3 := Aside0.mk (blk_below C3.out hb)
          have n_C4 := Aside0.mk (blk_below C4.out hb)
          have n_C6 := Aside0.mk (blk_below C6.out hb)
          have n_H0 : Aside0 (Held g0 L0 _) := ⟨blk_below H0.out hb⟩
          have n_H1 : Aside0 (Held g1 (L1 ++ b) _) := ⟨blk_below H1.out hb⟩
          have n_D0 := Aside0.mk (below_then D0.out D0.out.size hb)
          clear C3 C4 C6 H0 H1 D0
          have C3 := n_C3
          have C4 := n_C4
          have C6 := n_C6
          have H0 := n_H0
          have H1 := n_H1
          have D0 := n_D0
          clear n_C3 n_C4 n_C6 n_H0 n_H1 n_D0
          clear hb
          refine hK.out _ _ ⟨C3.out, C4.out, C6.out⟩ (fun hHeld => ?_)
          clear hK K
          refine norm_ (a' := ?_) ?_ ?_
          rotate_left
          · show Act.put _ (some 71) _ = _
            simp only [Act.put, List.setIfInBounds_toArray, List.set_cons_zero, List.set_cons_succ, i64_w, i32_w]
            rfl
          refine pure_ (i := 21) (N := some 72) (v := ?_) (a' := ?_) #[true, true, true, true, true, true, true, true, true, true, true, true, true, true, true, true, true, true, true, true, true, true, false, false] rfl rfl (any_of HT_.out (by kernel_rfl)) (fun _ _ _ h => h) (Or.inl ⟨by rfl, ?_⟩) ?_ ?_
          rotate_left
          · intro w'
            go_simp
            with_reducible rfl
          rotate_left
          · simp only [Act.put, List.setIfInBounds_toArray, List.set_cons_zero, List.set_cons_succ, i64_w, i32_w]
            rfl
          refine pure_ (i := 22) (N := some 73) (v := ?_) (a' := ?_) #[true, true, true, true, true, true, true, true, true, true, true, true, true, true, true, true, true, true, true, true, true, true, true, false] rfl rfl (any_of HT_.out (by kernel_rfl)) (fun _ _ _ h => h) (Or.inl ⟨by rfl, ?_⟩) ?_ ?_
          rotate_left
          · intro w'
            go_simp
            with_reducible rfl
          rotate_left
          · simp only [Act.put, List.setIfInBounds_toArray, List.set_cons_zero, List.set_cons_succ, i64_w, i32_w]
            rfl
          refine pure_ (i := 23) (N := some 74) (v := ?_) (a' := ?_) #[true, true, true, true, true, true, true, true, true, true, true, true, true, true, true, true, true, true, true, true, true, true, true, true] rfl rfl (any_of HT_.out (by kernel_rfl)) (fun _ _ _ h => h) (Or.inl ⟨by rfl, ?_⟩) ?_ ?_
          rotate_left
          · intro w'
            go_simp
            with_reducible rfl
          rotate_left
          · simp only [Act.put, List.setIfInBounds_toArray, List.set_cons_zero, List.set_cons_succ, i64_w, i32_w]
            rfl
          refine done_ (done_of HT_.out (by kernel_rfl)) ?_
          go_wp2
          go_roundw
          case rel => exact ⟨i + 1, L0, (L1 ++ b), by omega, by go_num, ⟨Nat.le_trans HL.out.1 (Nat.mul_le_mul_right _ (Nat.le_succ _)), by rw [List.length_append]; exact HLQ.out⟩, C3, C4, H0, H1, D0⟩
          case measure => simp [intOf]; omega
    · obtain rfl : i = xs.length := by omega
      have q1 : ((xs.length : Int) < (xs.length : Int)) = False := eq_false (by omega)
      have q2 : (xs.length ≤ xs.length) = True := eq_true (Nat.le_refl _)
      have HL0 : Aside0 (L0.length ≤ 140737488355328) := ⟨by have := HL.out.1; have := HN.out; omega⟩
      have HL1 : Aside0 (L1.length ≤ 140737488355328) := ⟨by have := HL.out.2; have := HN.out; omega⟩
      have heq0 := eq32 (sumF L0) (sumF L0) (sumF_len _) (sumF_len _)
      rw [decide_eq_true rfl] at heq0
      have heq1 := eq32 (sumF L1) (sumF L1) (sumF_len _) (sumF_len _)
      rw [decide_eq_true rfl] at heq1
      have HSW0 : ∀ W : World, Held g0 L0 W → Calls Try.prog 15 #[.pointer (some ⟨g0, 0, none⟩)] W fun e w' => e = .returned (B32 (sumF L0)) ∧ Below W.heap.size W w' := fun W h => held_sum g0 _ W h
      have HSW1 : ∀ W : World, Held g1 L1 W → Calls Try.prog 15 #[.pointer (some ⟨g1, 0, none⟩)] W fun e w' => e = .returned (B32 (sumF L1)) ∧ Below W.heap.size W w' := fun W h => held_sum g1 _ W h
      have HRS0 : ∀ W : World, Calls Try.prog 12 #[.string (tx L0)] W fun e w' => e = .returned (B32 (sumF L0)) ∧ Below W.heap.size W w' := fun W => rsum_calls L0 W HL0.out
      have HRS1 : ∀ W : World, Calls Try.prog 12 #[.string (tx L1)] W fun e w' => e = .returned (B32 (sumF L1)) ∧ Below W.heap.size W w' := fun W => rsum_calls L1 W HL1.out
      obtain ⟨V0, hB0⟩ : ∃ V, B32 (sumF L0) = .agg V := ⟨_, rfl⟩
      obtain ⟨V1, hB1⟩ : ∃ V, B32 (sumF L1) = .agg V := ⟨_, rfl⟩
      rw [hB0] at heq0 HSW0 HRS0
      rw [hB1] at heq1 HSW1 HRS1
      clear hB0 hB1
      go_upto_region 19 with (fail)
      refine start_ (n := 17) (S := fun W => W.heap[g3]? = some (.cells #[.pointer (some ⟨g0, 0, none⟩), .pointer (some ⟨g1, 0, none⟩)] 30 (0, 0)) ∧ W.heap[g4]? = some (.cells #[.string (tx L0), .string (tx L1)] 31 (0, 0))) (ds := []) #[false, false, false, false, false, false, false, false, false, false, false, false, false, false, false, false, false] (by kernel_rfl) rfl rfl ⟨blk_drew C3.out, blk_drew C4.out⟩ (fun hHeld => ?_); refine with_tabW wr19.tab19 wr19.bits19 (fun HT_ HW_ => ?_)
      have n_C3 := Aside0.mk (blk_drew C3.out)
      have n_C4 := Aside0.mk (blk_drew C4.out)
      have n_H0 : Aside0 (Held g0 L0 _) := ⟨blk_drew H0.out⟩
      have n_H1 : Aside0 (Held g1 L1 _) := ⟨blk_drew H1.out⟩
      have n_D0 := Aside0.mk (below_drew1 D0.out)
      clear C3 C4 H0 H1 D0
      have C3 := n_C3
      have C4 := n_C4
      have H0 := n_H0
      have H1 := n_H1
      have D0 := n_D0
      clear n_C3 n_C4 n_H0 n_H1 n_D0
      generalize World.drew _ = wR at C3 C4 H0 H1 D0 hHeld ⊢
      refine pure_ (i := 0) (N := some 75) (v := ?_) (a' := ?_) #[true, false, false, false, false, false, false, false, false, false, false, false, false, false, false, false, false] rfl rfl (any_of HT_.out (by kernel_rfl)) (fun _ _ _ h => h) (Or.inl ⟨by rfl, ?_⟩) ?_ ?_
      rotate_left
      · intro w'
        go_simp
        with_reducible rfl
      rotate_left
      · simp only [Act.put, List.setIfInBounds_toArray, List.set_cons_zero, List.set_cons_succ, i64_w, i32_w]
        rfl
      refine take_ (i := 1) (N := some 76) (v := ?_) (a' := ?_) #[true, true, false, false, false, false, false, false, false, false, false, false, false, false, false, false, false] rfl rfl (take_ofW HT_.out HW_.out (by kernel_rfl)) (fun _ _ _ h => h) (Or.inl ⟨by rfl, ?_⟩) hHeld ?_ ?_
      rotate_left
      · rintro w' ⟨s0, s1⟩
        have y0 : w'.cell? ⟨g3, 0, none⟩ = some (.pointer (some ⟨g0, 0, none⟩)) := (blk_cell s0 0).trans rfl
        go_simp
        with_reducible rfl
      rotate_left
      · simp only [Act.put, List.setIfInBounds_toArray, List.set_cons_zero, List.set_cons_succ, i64_w, i32_w]
        rfl
      refine pure_ (i := 3) (N := some 78) (v := ?_) (a' := ?_) #[true, true, false, true, false, false, false, false, false, false, false, false, false, false, false, false, false] rfl rfl (any_of HT_.out (by kernel_rfl)) (fun _ _ _ h => h) (Or.inl ⟨by rfl, ?_⟩) ?_ ?_
      rotate_left
      · intro w'
        go_simp
        with_reducible rfl
      rotate_left
      · simp only [Act.put, List.setIfInBounds_toArray, List.set_cons_zero, List.set_cons_succ, i64_w, i32_w]
        rfl
      refine take_ (i := 4) (N := some 79) (v := ?_) (a' := ?_) #[true, true, false, true, true, false, false, false, false, false, false, false, false, false, false, false, false] rfl rfl (take_ofW HT_.out HW_.out (by kernel_rfl)) (fun _ _ _ h => h) (Or.inl ⟨by rfl, ?_⟩) hHeld ?_ ?_
      rotate_left
      · rintro w' ⟨s0, s1⟩
        have y0 : w'.cell? ⟨g4, 0, none⟩ = some (.string (tx L0)) := (blk_cell s1 0).trans rfl
        go_simp
        with_reducible rfl
      rotate_left
      · simp only [Act.put, List.setIfInBounds_toArray, List.set_cons_zero, List.set_cons_succ, i64_w, i32_w]
        rfl
      refine one_ (i := 2) (N := some 77) #[true, true, true, true, true, false, false, false, false, false, false, false, false, false, false, false, false] rfl rfl (one_of HT_.out (by kernel_rfl)) (by decide) (fun K hK => ?_)
      refine goes_ Try.func15 (by kernel_rfl) rfl #[.pointer (some ⟨g0, 0, none⟩)] (by rfl) rfl rfl (by (try simp only [List.map_toArray, List.map_cons, List.map_nil]); first | done | rfl) ?_
      with_reducible refine (HSW0 _ H0.out).mono ?_
      rintro e wS0 ⟨rfl, hb⟩
      refine ⟨_, rfl, ?_⟩
      have n_C3 := Aside0.mk (blk_below C3.out hb)
      have n_C4 := Aside0.mk (blk_below C4.out hb)
      have n_H0 : Aside0 (Held g0 L0 _) := ⟨blk_below H0.out hb⟩
      have n_H1 : Aside0 (Held g1 L1 _) := ⟨blk_below H1.out hb⟩
      have n_D0 := Aside0.mk (below_then D0.out D0.out.size hb)
      clear C3 C4 H0 H1 D0
      have C3 := n_C3
      have C4 := n_C4
      have H0 := n_H0
      have H1 := n_H1
      have D0 := n_D0
      clear n_C3 n_C4 n_H0 n_H1 n_D0
      clear hb
      refine hK.out _ _ ⟨C3.out, C4.out⟩ (fun hHeld => ?_)
      clear hK K
      refine norm_ (a' := ?_) ?_ ?_
      rotate_left
      · show Act.put _ (some 77) _ = _
        simp only [Act.put, List.setIfInBounds_toArray, List.set_cons_zero, List.set_cons_succ, i64_w, i32_w]
        rfl
      refine one_ (i := 5) (N := some 80) #[true, true, true, true, true, true, false, false, false, false, false, false, false, false, false, false, false] rfl rfl (one_of HT_.out (by kernel_rfl)) (by decide) (fun K hK => ?_)
      refine goes_ Try.func12 (by kernel_rfl) rfl #[.string (tx L0)] (by rfl) rfl rfl (by (try simp only [List.map_toArray, List.map_cons, List.map_nil]); first | done | rfl) ?_
      with_reducible refine (HRS0 _).mono ?_
      rintro e wT0 ⟨rfl, hb⟩
      refine ⟨_, rfl, ?_⟩
      have n_C3 := Aside0.mk (blk_below C3.out hb)
      have n_C4 := Aside0.mk (blk_below C4.out hb)
      have n_H0 : Aside0 (Held g0 L0 _) := ⟨blk_below H0.out hb⟩
      have n_H1 : Aside0 (Held g1 L1 _) := ⟨blk_below H1.out hb⟩
      have n_D0 := Aside0.mk (below_then D0.out D0.out.size hb)
      clear C3 C4 H0 H1 D0
      have C3 := n_C3
      have C4 := n_C4
      have H0 := n_H0
      have H1 := n_H1
      have D0 := n_D0
      clear n_C3 n_C4 n_H0 n_H1 n_D0
      clear hb
      refine hK.out _ _ ⟨C3.out, C4.out⟩ (fun hHeld => ?_)
      clear hK K
      refine norm_ (a' := ?_) ?_ ?_
      rotate_left
      · show Act.put _ (some 80) _ = _
        simp only [Act.put, List.setIfInBounds_toArray, List.set_cons_zero, List.set_cons_succ, i64_w, i32_w]
        rfl
      refine pure_ (i := 6) (N := some 81) (v := ?_) (a' := ?_) #[true, true, true, true, true, true, true, false, false, false, false, false, false, false, false, false, false] rfl rfl (any_of HT_.out (by kernel_rfl)) (fun _ _ _ h => h) (Or.inl ⟨by rfl, ?_⟩) ?_ ?_
      rotate_left
      · intro w'
        go_simp
        with_reducible rfl
      rotate_left
      · simp only [Act.put, List.setIfInBounds_toArray, List.set_cons_zero, List.set_cons_succ, i64_w, i32_w]
        rfl
      refine pure_ (i := 7) (N := some 82) (v := ?_) (a' := ?_) #[true, true, true, true, true, true, true, true, false, false, false, false, false, false, false, false, false] rfl rfl (any_of HT_.out (by kernel_rfl)) (fun _ _ _ h => h) (Or.inl ⟨by rfl, ?_⟩) ?_ ?_
      rotate_left
      · intro w'
        go_simp
        with_reducible rfl
      rotate_left
      · simp only [Act.put, List.setIfInBounds_toArray, List.set_cons_zero, List.set_cons_succ, i64_w, i32_w]
        rfl
      refine pure_ (i := 8) (N := some 83) (v := ?_) (a' := ?_) #[true, true, true, true, true, true, true, true, true, false, false, false, false, false, false, false, false] rfl rfl (any_of HT_.out (by kernel_rfl)) (fun _ _ _ h => h) (Or.inl ⟨by rfl, ?_⟩) ?_ ?_
      rotate_left
      · intro w'
        go_simp
        with_reducible rfl
      rotate_left
      · simp only [Act.put, List.setIfInBounds_toArray, List.set_cons_zero, List.set_cons_succ, i64_w, i32_w]
        rfl
      refine take_ (i := 9) (N := some 84) (v := ?_) (a' := ?_) #[true, true, true, true, true, true, true, true, true, true, false, false, false, false, false, false, false] rfl rfl (take_ofW HT_.out HW_.out (by kernel_rfl)) (fun _ _ _ h => h) (Or.inl ⟨by rfl, ?_⟩) hHeld ?_ ?_
      rotate_left
      · rintro w' ⟨s0, s1⟩
        have y0 : w'.cell? ⟨g3, 1, none⟩ = some (.pointer (some ⟨g1, 0, none⟩)) := (blk_cell s0 1).trans rfl
        go_simp
        with_reducible rfl
      rotate_left
      · simp only [Act.put, List.setIfInBounds_toArray, List.set_cons_zero, List.set_cons_succ, i64_w, i32_w]
        rfl
      refine pure_ (i := 11) (N := some 86) (v := ?_) (a' := ?_) #[true, true, true, true, true, true, true, true, true, true, false, true, false, false, false, false, false] rfl rfl (any_of HT_.out (by kernel_rfl)) (fun _ _ _ h => h) (Or.inl ⟨by rfl, ?_⟩) ?_ ?_
      rotate_left
      · intro w'
        go_simp
        with_reducible rfl
      rotate_left
      · simp only [Act.put, List.setIfInBounds_toArray, List.set_cons_zero, List.set_cons_succ, i64_w, i32_w]
        rfl
      refine take_ (i := 12) (N := some 87) (v := ?_) (a' := ?_) #[true, true, true, true, true, true, true, true, true, true, false, true, true, false, false, false, false] rfl rfl (take_ofW HT_.out HW_.out (by kernel_rfl)) (fun _ _ _ h => h) (Or.inl ⟨by rfl, ?_⟩) hHeld ?_ ?_
      rotate_left
      · rintro w' ⟨s0, s1⟩
        have y0 : w'.cell? ⟨g4, 1, none⟩ = some (.string (tx L1)) := (blk_cell s1 1).trans rfl
        go_simp
        with_reducible rfl
      rotate_left
      · simp only [Act.put, List.setIfInBounds_toArray, List.set_cons_zero, List.set_cons_succ, i64_w, i32_w]
        rfl
      refine one_ (i := 10) (N := some 85) #[true, true, true, true, true, true, true, true, true, true, true, true, true, false, false, false, false] rfl rfl (one_of HT_.out (by kernel_rfl)) (by decide) (fun K hK => ?_)
      refine goes_ Try.func15 (by kernel_rfl) rfl #[.pointer (some ⟨g1, 0, none⟩)] (by rfl) rfl rfl (by (try simp only [List.map_toArray, List.map_cons, List.map_nil]); first | done | rfl) ?_
      with_reducible refine (HSW1 _ H1.out).mono ?_
      rintro e wS8 ⟨rfl, hb⟩
      refine ⟨_, rfl, ?_⟩
      have n_C3 := Aside0.mk (blk_below C3.out hb)
      have n_C4 := Aside0.mk (blk_below C4.out hb)
      have n_H0 : Aside0 (Held g0 L0 _) := ⟨blk_below H0.out hb⟩
      have n_H1 : Aside0 (Held g1 L1 _) := ⟨blk_below H1.out hb⟩
      have n_D0 := Aside0.mk (below_then D0.out D0.out.size hb)
      clear C3 C4 H0 H1 D0
      have C3 := n_C3
      have C4 := n_C4
      have H0 := n_H0
      have H1 := n_H1
      have D0 := n_D0
      clear n_C3 n_C4 n_H0 n_H1 n_D0
      clear hb
      refine hK.out _ _ ⟨C3.out, C4.out⟩ (fun hHeld => ?_)
      clear hK K
      refine norm_ (a' := ?_) ?_ ?_
      rotate_left
      · show Act.put _ (some 85) _ = _
        simp only [Act.put, List.setIfInBounds_toArray, List.set_cons_zero, List.set_cons_succ, i64_w, i32_w]
        rfl
      refine one_ (i := 13) (N := some 88) #[true, true, true, true, true, true, true, true, true, true, true, true, true, true, false, false, false] rfl rfl (one_of HT_.out (by kernel_rfl)) (by decide) (fun K hK => ?_)
      refine goes_ Try.func12 (by kernel_rfl) rfl #[.string (tx L1)] (by rfl) rfl rfl (by (try simp only [List.map_toArray, List.map_cons, List.map_nil]); first | done | rfl) ?_
      with_reducible refine (HRS1 _).mono ?_
      rintro e wT8 ⟨rfl, hb⟩
      refine ⟨_, rfl, ?_⟩
      have n_C3 := Aside0.mk (blk_below C3.out hb)
      have n_C4 := Aside0.mk (blk_below C4.out hb)
      have n_H0 : Aside0 (Held g0 L0 _) := ⟨blk_below H0.out hb⟩
      have n_H1 : Aside0 (Held g1 L1 _) := ⟨blk_below H1.out hb⟩
      have n_D0 := Aside0.mk (below_then D0.out D0.out.size hb)
      clear C3 C4 H0 H1 D0
      have C3 := n_C3
      have C4 := n_C4
      have H0 := n_H0
      have H1 := n_H1
      have D0 := n_D0
      clear n_C3 n_C4 n_H0 n_H1 n_D0
      clear hb
      refine hK.out _ _ ⟨C3.out, C4.out⟩ (fun hHeld => ?_)
      clear hK K
      refine norm_ (a' := ?_) ?_ ?_
      rotate_left
      · show Act.put _ (some 88) _ = _
        simp only [Act.put, List.setIfInBounds_toArray, List.set_cons_zero, List.set_cons_succ, i64_w, i32_w]
        rfl
      refine pure_ (i := 14) (N := some 89) (v := ?_) (a' := ?_) #[true, true, true, true, true, true, true, true, true, true, true, true, true, true, true, false, false] rfl rfl (any_of HT_.out (by kernel_rfl)) (fun _ _ _ h => h) (Or.inl ⟨by rfl, ?_⟩) ?_ ?_
      rotate_left
      · intro w'
        go_simp
        with_reducible rfl
      rotate_left
      · simp only [Act.put, List.setIfInBounds_toArray, List.set_cons_zero, List.set_cons_succ, i64_w, i32_w]
        rfl
      refine pure_ (i := 15) (N := some 90) (v := ?_) (a' := ?_) #[true, true, true, true, true, true, true, true, true, true, true, true, true, true, true, true, false] rfl rfl (any_of HT_.out (by kernel_rfl)) (fun _ _ _ h => h) (Or.inl ⟨by rfl, ?_⟩) ?_ ?_
      rotate_left
      · intro w'
        go_simp
        with_reducible rfl
      rotate_left
      · simp only [Act.put, List.setIfInBounds_toArray, List.set_cons_zero, List.set_cons_succ, i64_w, i32_w]
        rfl
      refine pure_ (i := 16) (N := some 2) (v := ?_) (a' := ?_) #[true, true, true, true, true, true, true, true, true, true, true, true, true, true, true, true, true] rfl rfl (any_of HT_.out (by kernel_rfl)) (fun _ _ _ h => h) (Or.inl ⟨by rfl, ?_⟩) ?_ ?_
      rotate_left
      · intro w'
        go_simp
        with_reducible rfl
      rotate_left
      · simp only [Act.put, List.setIfInBounds_toArray, List.set_cons_zero, List.set_cons_succ, i64_w, i32_w]
        rfl
      refine done_ (done_of HT_.out (by kernel_rfl)) ?_
      go_wp2
      go_ret
      exact ⟨rfl, D0.out⟩
end Go.Proofs.Ytcmjpdfkacmogaa.Sha
