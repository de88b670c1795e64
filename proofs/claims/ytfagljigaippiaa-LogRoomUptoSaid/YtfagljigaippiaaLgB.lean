/- Chapter 7: lay. -/
import Derived.Test.YtfagljigaippiaaLgA
namespace Go.Proofs.Ytfagljigaippiaa.Dk
open Go.RowKit Go.Maps Go.Proofs.Ytfagljigaippiaa.X Go.Proofs.YtfagljigaippiaaW.PrintWords Go.Proofs.YtfagljigaippiaaW.PrintLast Go.Proofs.YtfagljigaippiaaW.PrintMore
set_option linter.unusedVariables false
set_option linter.unusedSimpArgs false

def lly.T4 : Bool × List (List Nat × List Nat) := (true, [([], []), ([], []), ([1], [1]), ([2], [2]), ([3], [3]), ([], []), ([5], [5]), ([], []), ([7], [7]), ([4, 6, 8], [4, 6, 8]), ([0, 9, 9], [0, 9]), ([10, 10, 0, 1, 2, 3, 4, 5, 6, 7, 8, 9, 10], [10])])
def lly.B4 : List Nat := [0, 0, 2, 6, 14, 0, 32, 0, 128, 510, 1023, 2047]
theorem lly.tab4 : rtab .any (opsOf Try.f35 4) = lly.T4 := by kernel_rfl
theorem lly.bits4 : waitsOk lly.T4.2 lly.B4 = true := by kernel_rfl
/-- A write: a block's number and its text. -/
def kW : Kd (Int × ByteArray) := Kd.iso (Kd.pair (Kd.int .i64) Kd.string) (fun x : Int × ByteArray => x)
theorem kW_open {w : World} {x : Int × ByteArray} {cs : List Value} (h : kW.K w x cs) : cs = [.int .i64 x.1, .string x.2] := by
  obtain ⟨a, b, rfl, ha, hb⟩ := h
  have e1 : a = [.int .i64 x.1] := ha
  have e2 : b = [.string x.2] := hb
  rw [e1, e2]; rfl
theorem kW_mk (w : World) (x : Int × ByteArray) : kW.K w x [.int .i64 x.1, .string x.2] := ⟨[.int .i64 x.1], [.string x.2], rfl, rfl, rfl⟩
theorem writes_at {W : World} {A : Option Addr} {n : Nat} {ws : List (Int × ByteArray)} (h : Kd.C kW W A n ws) (j : Nat) (a : Int) (x : ByteArray) (hj : ws[j]? = some (a, x)) : ∃ ad : Addr, A = some ad ∧ W.cell? (ad.add (j * 2)) = some (.int .i64 a) ∧ W.cell? ⟨(ad.add (j * 2)).block, (ad.add (j * 2)).off + 1, none⟩ = some (.string x) := by
  have hjl := (List.getElem?_eq_some_iff.1 hj).1
  obtain ⟨h1, _, h3⟩ := h
  obtain ⟨ad, e, h4⟩ := h3 (by omega)
  obtain ⟨cs, hc, hk, hcell⟩ := h4 j _ hj
  have e2 := kW_open hk
  subst e2
  refine ⟨ad, e, hcell 0 _ rfl, ?_⟩
  rw [← add_field ad (j * 2) 1 (by decide)]
  exact hcell 1 _ rfl
/-- Writes that can be read whatever the disk and the log's object do. -/
def Src (base : Nat) (L : Nat → Sl) (N i j : Nat) (w0 : World) (A : Option Addr) (ws : List (Int × ByteArray)) : Prop := ∀ (L' : Nat → Sl) (W' : World), Many base L' N W' → Elj L L' i j → Below base w0 W' → Kd.C kW W' A ws.length ws
theorem Src.go {base : Nat} {L L' : Nat → Sl} {N i j : Nat} {w0 : World} {A : Option Addr} {ws : List (Int × ByteArray)} (h : Src base L N i j w0 A ws) (e : Elj L L' i j) : Src base L' N i j w0 A ws := fun L2 W2 hm e2 hb => h L2 W2 hm (elj_trans e e2) hb
/-- What lay does to the disk, whether the log is dead, and what it answers. -/
def layS : DS → Bool → List (Int × ByteArray) → DS × Bool × Int
  | s, d, [] => ((flushS s).1, (d || decide ((flushS s).2 = 9)), (flushS s).2)
  | s, d, p :: ps => if (writeS s p.1 p.2).2 = 0 then layS (writeS s p.1 p.2).1 d ps else ((writeS s p.1 p.2).1, (d || decide ((writeS s p.1 p.2).2 = 9)), (writeS s p.1 p.2).2)
theorem Lg.more {base : Nat} {L : Nat → Sl} {N i g j gl : Nat} {s : DS} {n m m' sz : Nat} {dead : Bool} {w0 w : World} (h : Lg base L N i g j gl s n m sz dead w0 w) (hm : m ≤ m') (hm' : m' ≤ 549755813887) : Lg base L N i g j gl s n m' sz dead w0 w := ⟨⟨h.at_.many, h.at_.disk, h.at_.hi, ok_more h.at_.ok hm, h.at_.bel, h.at_.hb, h.at_.hn, hm'⟩, h.log, h.hj, h.ap⟩
set_option maxHeartbeats 8000000 in
set_option maxRecDepth 100000 in
theorem lay_calls {base : Nat} {L : Nat → Sl} {N i g j gl : Nat} {s : DS} {n m sz : Nat} {dead : Bool} {w0 w : World} (A : Option Addr) (c : Nat) (ws : List (Int × ByteArray)) (h : Lg base L N i g j gl s n m sz dead w0 w) (hr : Src base L N i j w0 A ws) (hm : m + ws.length ≤ 549755813887) :
    Calls Try.prog 35 #[.pointer (some ⟨gl, 0, none⟩), .slice A ws.length c] w fun e w' => e = .returned (.int .i64 (layS s dead ws).2.2) ∧ ∃ L', Lg base L' N i g j gl (layS s dead ws).1 n (m + ws.length) sz (layS s dead ws).2.1 w0 w' ∧ Elj L L' i j := by
  have H0 := Aside0.mk h
  have HS := Aside0.mk hr
  clear h hr
  go_enter Try.func35, Try.ntmps35
  go_wp2
  go_loopw [10] (fun v10 W => ∃ (k : Nat) (L1 : Nat → Sl) (s1 : DS) (d1 : Bool), k ≤ ws.length ∧ v10 = .int .i64 k ∧ Aside0 (Lg base L1 N i g j gl s1 n (m + k) sz d1 w0 W) ∧ Aside0 (layS s dead ws = layS s1 d1 (ws.drop k)) ∧ Aside0 (Elj L L1 i j)) (fun v10 _ => ws.length - (intOf v10).toNat)
  case atStart => exact ⟨0, L, s, dead, Nat.zero_le _, rfl, H0, ⟨by rw [List.drop_zero]⟩, ⟨elj_refl L i j⟩⟩
  case round =>
    clear H0
    obtain ⟨k, L1, s1, d1, hk, rfl, H, HE, EL⟩ := hrel
    by_cases hlt : k < ws.length
    · have q1 : ((k : Int) < (ws.length : Int)) = True := eq_true (by omega)
      have q2 : (k < ws.length) = True := eq_true hlt
      have q3 : (ws.length ≤ k) = False := eq_false (by omega)
      obtain ⟨p, hpk⟩ : ∃ p, ws[k]? = some p := ⟨_, List.getElem?_eq_getElem hlt⟩
      obtain ⟨pn, x⟩ := p
      obtain ⟨ad, rfl, hc0, hc1⟩ := writes_at (HS.out L1 _ H.out.at_.many EL.out H.out.at_.bel) k pn x hpk
      have hdr : ws.drop k = (pn, x) :: ws.drop (k + 1) := by
        have := List.drop_eq_getElem_cons hlt
        rw [this]
        have e := List.getElem?_eq_getElem hlt
        rw [hpk] at e
        injection e with e
        rw [← e]
      have HE2 : Aside0 (layS s dead ws = if (writeS s1 pn x).2 = 0 then layS (writeS s1 pn x).1 d1 (ws.drop (k + 1)) else ((writeS s1 pn x).1, (d1 || decide ((writeS s1 pn x).2 = 9)), (writeS s1 pn x).2)) := ⟨by rw [HE.out, hdr]; rfl⟩
      clear hdr hpk HE
      go_upto_region 4 with (fail)
      clear hc0 hc1
      have hal := below_alloc (Below.refl wr.heap.size wr) (.cells #[Value.int .i64 pn, Value.string x] 35)
      have H5 := Aside0.mk (H.out.below hal)
      have K2 : Aside0 ((wr.alloc (.cells #[Value.int .i64 pn, Value.string x] 35)).cell? ⟨wr.heap.size, 0, none⟩ = some (.int .i64 pn)) := ⟨by rw [blk_cell (blk_new _ _)]; rfl⟩
      have K3 : Aside0 ((wr.alloc (.cells #[Value.int .i64 pn, Value.string x] 35)).cell? ⟨wr.heap.size, 1, none⟩ = some (.string x)) := ⟨by rw [blk_cell (blk_new _ _)]; rfl⟩
      have K1 := Aside0.mk H5.out.cells.1
      clear hal H
      obtain ⟨gn, hgn⟩ : ∃ gn, gn = wr.heap.size := ⟨_, rfl⟩
      rw [← hgn] at K2 K3
      have PN : (Value.pointer (some ⟨wr.heap.size, 0, none⟩)) = .pointer (some ⟨gn, 0, none⟩) := by rw [hgn]
      rw [PN]
      generalize wr.alloc (.cells #[Value.int .i64 pn, Value.string x] 35) = w5 at H5 K1 K2 K3 ⊢
      clear hgn PN
      obtain ⟨e9, he9⟩ : ∃ e9, e9 = (writeS s1 pn x).2 := ⟨_, rfl⟩
      have CW := fun (W : World) (hW : Below w5.heap.size w5 W) => at_write (H5.out.at_.below hW) pn x (by omega)
      rw [← he9] at HE2
      simp only [← he9] at CW
      clear he9
      refine start_ (n := 12) (S := fun W => Below w5.heap.size w5 W) (ds := [9, 10]) #[false, false, false, false, false, false, false, false, false, false, false, false] (by kernel_rfl) rfl rfl (below_drew1 (Below.refl _ _)) (fun hHeld => ?_); refine with_tabW lly.tab4 lly.bits4 (fun HT_ HW_ => ?_)
      generalize World.drew _ = wR at hHeld ⊢
      refine pure_ (i := 0) (N := some 14) (v := ?_) (a' := ?_) #[true, false, false, false, false, false, false, false, false, false, false, false] rfl rfl (any_of HT_.out (by kernel_rfl)) (fun _ _ _ h => h) (Or.inl ⟨by rfl, ?_⟩) ?_ ?_
      rotate_left
      · intro w'
        go_simp
        with_reducible rfl
      rotate_left
      · simp only [Act.put, List.setIfInBounds_toArray, List.set_cons_zero, List.set_cons_succ, i64_w, i32_w]
        rfl
      refine pure_ (i := 1) (N := some 15) (v := ?_) (a' := ?_) #[true, true, false, false, false, false, false, false, false, false, false, false] rfl rfl (any_of HT_.out (by kernel_rfl)) (fun _ _ _ h => h) (Or.inl ⟨by rfl, ?_⟩) ?_ ?_
      rotate_left
      · intro w'
        go_simp
        with_reducible rfl
      rotate_left
      · simp only [Act.put, List.setIfInBounds_toArray, List.set_cons_zero, List.set_cons_succ, i64_w, i32_w]
        rfl
      refine pure_ (i := 2) (N := some 16) (v := ?_) (a' := ?_) #[true, true, true, false, false, false, false, false, false, false, false, false] rfl rfl (any_of HT_.out (by kernel_rfl)) (fun _ _ _ h => h) (Or.inl ⟨by rfl, ?_⟩) ?_ ?_
      rotate_left
      · intro w'
        go_simp
        with_reducible rfl
      rotate_left
      · simp only [Act.put, List.setIfInBounds_toArray, List.set_cons_zero, List.set_cons_succ, i64_w, i32_w]
        rfl
      refine pure_ (i := 3) (N := some 17) (v := ?_) (a' := ?_) #[true, true, true, true, false, false, false, false, false, false, false, false] rfl rfl (any_of HT_.out (by kernel_rfl)) (fun _ _ _ h => h) (Or.inl ⟨by rfl, ?_⟩) ?_ ?_
      rotate_left
      · intro w'
        go_simp
        with_reducible rfl
      rotate_left
      · simp only [Act.put, List.setIfInBounds_toArray, List.set_cons_zero, List.set_cons_succ, i64_w, i32_w]
        rfl
      refine take_ (i := 4) (N := some 18) (v := ?_) (a' := ?_) #[true, true, true, true, true, false, false, false, false, false, false, false] rfl rfl (take_ofW HT_.out HW_.out (by kernel_rfl)) (fun _ _ _ h => h) (Or.inl ⟨by rfl, ?_⟩) hHeld ?_ ?_
      rotate_left
      · rintro w' s0
        have hK := below_cell' s0 K1.out
        go_simp
        with_reducible rfl
      rotate_left
      · simp only [Act.put, List.setIfInBounds_toArray, List.set_cons_zero, List.set_cons_succ, i64_w, i32_w]
        rfl
      refine pure_ (i := 5) (N := some 19) (v := ?_) (a' := ?_) #[true, true, true, true, true, true, false, false, false, false, false, false] rfl rfl (any_of HT_.out (by kernel_rfl)) (fun _ _ _ h => h) (Or.inl ⟨by rfl, ?_⟩) ?_ ?_
      rotate_left
      · intro w'
        go_simp
        with_reducible rfl
      rotate_left
      · simp only [Act.put, List.setIfInBounds_toArray, List.set_cons_zero, List.set_cons_succ, i64_w, i32_w]
        rfl
      refine take_ (i := 6) (N := some 20) (v := ?_) (a' := ?_) #[true, true, true, true, true, true, true, false, false, false, false, false] rfl rfl (take_ofW HT_.out HW_.out (by kernel_rfl)) (fun _ _ _ h => h) (Or.inl ⟨by rfl, ?_⟩) hHeld ?_ ?_
      rotate_left
      · rintro w' s0
        have hK := below_cell' s0 K2.out
        go_simp
        with_reducible rfl
      rotate_left
      · simp only [Act.put, List.setIfInBounds_toArray, List.set_cons_zero, List.set_cons_succ, i64_w, i32_w]
        rfl
      refine pure_ (i := 7) (N := some 21) (v := ?_) (a' := ?_) #[true, true, true, true, true, true, true, true, false, false, false, false] rfl rfl (any_of HT_.out (by kernel_rfl)) (fun _ _ _ h => h) (Or.inl ⟨by rfl, ?_⟩) ?_ ?_
      rotate_left
      · intro w'
        go_simp
        with_reducible rfl
      rotate_left
      · simp only [Act.put, List.setIfInBounds_toArray, List.set_cons_zero, List.set_cons_succ, i64_w, i32_w]
        rfl
      refine take_ (i := 8) (N := some 22) (v := ?_) (a' := ?_) #[true, true, true, true, true, true, true, true, true, false, false, false] rfl rfl (take_ofW HT_.out HW_.out (by kernel_rfl)) (fun _ _ _ h => h) (Or.inl ⟨by rfl, ?_⟩) hHeld ?_ ?_
      rotate_left
      · rintro w' s0
        have hK := below_cell' s0 K3.out
        go_simp
        with_reducible rfl
      rotate_left
      · simp only [Act.put, List.setIfInBounds_toArray, List.set_cons_zero, List.set_cons_succ, i64_w, i32_w]
        rfl
      refine last_ (i := 9) (N := some 23) #[true, true, true, true, true, true, true, true, true, true, false, false] rfl rfl (one_of HT_.out (by kernel_rfl)) (by decide) (fun K hK => ?_)
      refine goes_ Try.func23 (by kernel_rfl) rfl #[.pointer (some ⟨g, 0, none⟩), .int .i64 pn, .string x] (by rfl) rfl rfl (by (try simp only [List.map_toArray, List.map_cons, List.map_nil]); first | done | rfl) ?_
      with_reducible refine (CW _ hHeld).mono ?_
      rintro e w6 ⟨rfl, L6, h6, e6⟩
      refine ⟨_, rfl, ?_⟩
      refine hK.out _ _ ?_
      clear hK K
      refine norm_ (a' := ?_) ?_ ?_
      rotate_left
      · show Act.put _ (some 23) _ = _
        simp only [Act.put, List.setIfInBounds_toArray, List.set_cons_zero, List.set_cons_succ, i64_w, i32_w]
        rfl
      refine last_ (i := 10) (N := some 24) #[true, true, true, true, true, true, true, true, true, true, true, false] rfl rfl (one_of HT_.out (by kernel_rfl)) (by decide) (fun K hK => ?_)
      refine goes_ Try.func39 (by kernel_rfl) rfl #[.pointer (some ⟨gl, 0, none⟩), .int .i64 e9] (by rfl) rfl rfl (by (try simp only [List.map_toArray, List.map_cons, List.map_nil]); first | done | rfl) ?_
      with_reducible refine (met_calls ((H5.out.below hHeld).step h6 e6) e9).mono ?_
      rintro e w7 ⟨rfl, L7, h7, e7⟩
      refine ⟨_, rfl, ?_⟩
      refine hK.out _ _ ?_
      clear hK K
      refine norm_ (a' := ?_) ?_ ?_
      rotate_left
      · show Act.put _ (some 24) _ = _
        simp only [Act.put, List.setIfInBounds_toArray, List.set_cons_zero, List.set_cons_succ, i64_w, i32_w]
        rfl
      refine pure_ (i := 11) (N := some 7) (v := ?_) (a' := ?_) #[true, true, true, true, true, true, true, true, true, true, true, true] rfl rfl (any_of HT_.out (by kernel_rfl)) (fun _ _ _ h => h) (Or.inl ⟨by rfl, ?_⟩) ?_ ?_
      rotate_left
      · intro w'
        go_simp
        with_reducible rfl
      rotate_left
      · simp only [Act.put, List.setIfInBounds_toArray, List.set_cons_zero, List.set_cons_succ, i64_w, i32_w]
        rfl
      refine done_ (done_of HT_.out (by kernel_rfl)) ?_
      have H7 := Aside0.mk h7
      have E7 := Aside0.mk (elj_trans (elj_trans EL.out (elj_else e6)) e7)
      clear h7 h6 e6 e7 hHeld K1 K2 K3 CW H5
      by_cases h0 : e9 = 0
      · subst h0
        have ed : (d1 || decide ((0 : Int) = 9)) = d1 := by simp
        rw [ed] at H7
        go_wp2
        exact ⟨⟨k + 1, L7, _, d1, by omega, by go_num, H7, ⟨by rw [HE2.out, if_pos rfl]⟩, E7⟩, by simp [intOf]; omega⟩
      · have p1 : (e9 = 0) = False := eq_false h0
        have p2 : (e9 == 0) = false := by simp [h0]
        rw [if_neg h0] at HE2
        go_wp2
        go_ret
        exact ⟨by rw [HE2.out]; rfl, L7, by rw [HE2.out]; exact H7.out.more (by omega) hm, E7.out⟩
    · have q1 : ((k : Int) < (ws.length : Int)) = False := eq_false (by omega)
      obtain rfl : k = ws.length := by omega
      rw [List.drop_length] at HE
      have HE2 : Aside0 (layS s dead ws = ((flushS s1).1, (d1 || decide ((flushS s1).2 = 9)), (flushS s1).2)) := ⟨HE.out⟩
      clear HE
      obtain ⟨e9, he9⟩ : ∃ e9, e9 = (flushS s1).2 := ⟨_, rfl⟩
      have CF := at_flush H.out.at_
      rw [← he9] at HE2 CF
      clear he9
      have c0 := H.out.cells.1
      go_wp2_with (first
        | (go_at_call 56; (with_reducible refine CF.mono ?_); rintro e w6 ⟨rfl, L6, h6, e6⟩; have H6 := Aside0.mk (H.out.step h6 e6); have E6 := Aside0.mk (elj_trans EL.out (elj_else e6)); clear h6 e6)
        | (go_at_call 39; (with_reducible refine (met_calls H6.out e9).mono ?_); rintro e w7 ⟨rfl, L7, h7, e7⟩; have H7 := Aside0.mk h7; have E7 := Aside0.mk (elj_trans E6.out e7); clear h7 e7))
      go_ret
      exact ⟨by rw [HE2.out]; rfl, L7, by rw [HE2.out]; exact H7.out, E7.out⟩
end Go.Proofs.Ytfagljigaippiaa.Dk
