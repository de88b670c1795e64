/- Chapter 6: a step of the script. -/
import Derived.Test.YtebhmbdblifddaaDkT
import Derived.Test.YtebhmbdblifddaaX43
namespace Go.Proofs.Ytebhmbdblifddaa.Dk
open Go.RowKit Go.Maps Go.Proofs.Ytebhmbdblifddaa.X Go.Proofs.YtebhmbdblifddaaW.PrintWords Go.Proofs.YtebhmbdblifddaaW.PrintLast Go.Proofs.YtebhmbdblifddaaW.PrintMore
set_option linter.unusedVariables false
set_option linter.unusedSimpArgs false

def dpl.T7 : Bool × List (List Nat × List Nat) := (true, [([], []), ([], []), ([1], [1]), ([], []), ([3], [3]), ([0, 2, 4, 4], [0, 2, 4]), ([5, 5, 0, 1, 2, 3, 4, 5], [5])])
def dpl.B7 : List Nat := [0, 0, 2, 0, 8, 31, 63]
theorem dpl.tab7 : rtab .any (opsOf Try.f24 7) = dpl.T7 := by kernel_rfl
theorem dpl.bits7 : waitsOk dpl.T7.2 dpl.B7 = true := by kernel_rfl
def dpl.T8 : Bool × List (List Nat × List Nat) := (true, [([], []), ([], []), ([], []), ([2], [2]), ([], []), ([4], [4]), ([1, 3, 5, 5], [1, 3, 5]), ([0, 6], [0, 6]), ([7, 6, 0, 1, 2, 3, 4, 5, 6, 7], [7])])
def dpl.B8 : List Nat := [0, 0, 0, 4, 0, 16, 62, 127, 255]
theorem dpl.tab8 : rtab .any (opsOf Try.f24 8) = dpl.T8 := by kernel_rfl
theorem dpl.bits8 : waitsOk dpl.T8.2 dpl.B8 = true := by kernel_rfl
def dpl.T23 : Bool × List (List Nat × List Nat) := (true, [([], []), ([], []), ([0, 1], [0, 1]), ([2], [2]), ([], []), ([4], [4]), ([], []), ([5, 6], [5, 6]), ([7], [7]), ([3, 8], [3, 8])])
def dpl.B23 : List Nat := [0, 0, 3, 7, 0, 16, 0, 112, 240, 511]
theorem dpl.tab23 : rtab .any (opsOf Try.f24 23) = dpl.T23 := by kernel_rfl
theorem dpl.bits23 : waitsOk dpl.T23.2 dpl.B23 = true := by kernel_rfl
theorem text_loop (kd k : Int) (t : ByteArray) (ks : List Int) (ht : t.size ≤ 1048576) : ∀ (d : Nat) (xs : List Int), 512 ≤ xs.length + d → xs.length ≤ 1049088 → ∃ r, cofferlaw06_Op_text.l0 (d + 1) xs kd k t true ks = some r
  | d, xs, hd, hx => by
    by_cases h1 : (xs.length : Int) < 512
    · obtain ⟨d, rfl⟩ : ∃ e, d = e + 1 := ⟨d - 1, by omega⟩
      unfold cofferlaw06_Op_text.l0
      rw [if_pos h1]
      by_cases h2 : t.toList = []
      · rw [if_pos h2, if_pos (by omega)]
        simp only [Option.bind_some]
        have hl : (xs ++ [(0 : Int)]).length = xs.length + 1 := by rw [List.length_append]; rfl
        rw [if_pos (by rw [hl]; omega)]
        have hb : ((xs ++ [(0 : Int)]) ++ bytesOf t).length = xs.length + 1 + t.size := by rw [List.length_append, hl, bytesOf_length]
        exact text_loop kd k t ks ht d _ (by rw [hb]; omega) (by rw [hb]; omega)
      · rw [if_neg h2, if_pos (by omega)]
        have hb : (xs ++ bytesOf t).length = xs.length + t.size := by rw [List.length_append, bytesOf_length]
        have h0 : 0 < t.size := by
          rcases Nat.eq_zero_or_pos t.size with h0 | h0
          · exact absurd (by obtain ⟨d⟩ := t; have e : d = #[] := Array.eq_empty_of_size_eq_zero h0; subst e; rw [ByteArray.toList_eq]) h2
          · exact h0
        exact text_loop kd k t ks ht d _ (by rw [hb]; omega) (by rw [hb]; omega)
    · unfold cofferlaw06_Op_text.l0
      rw [if_neg h1, if_pos (by omega)]
      exact ⟨_, rfl⟩
theorem text_total (kd k : Int) (t : ByteArray) (ev : Bool) (ks : List Int) (ht : t.size ≤ 1048576) : ∃ r, cofferlaw06_Op_text.f 513 kd k t ev ks = some r := by
  unfold cofferlaw06_Op_text.f
  cases ev with
  | true => rw [if_pos rfl]; exact text_loop kd k t ks ht 512 [] (by show 512 ≤ 0 + 512; omega) (by show 0 ≤ 1049088; omega)
  | false => exact ⟨t, rfl⟩
theorem info3s : (Try.prog.info? 3).map (fun i => (i.zero, i.size, i.bytes)) = some (some (.int .i64 0), 1, 8) := by kernel_rfl
theorem reads_ints {W : World} {A : Option Addr} {ks : List Int} (h : Kd.C (Kd.int .i64) W A ks.length ks) : ReadsInt W .i64 A ks.length ks := by
  refine ⟨rfl, h.2.1, fun hn => ?_⟩
  obtain ⟨ad, e, _⟩ := h.2.2 hn
  refine ⟨ad, e, fun j hj => ?_⟩
  obtain ⟨ad', e', hc⟩ := ints_at h j _ (List.getElem?_eq_getElem hj)
  rw [e] at e'
  injection e' with e'
  subst e'
  rw [List.getD_eq_getElem?_getD, List.getElem?_eq_getElem hj]
  exact hc
section
variable {base : Nat} {L : Nat → Sl} {N i g j r : Nat} {s s' : DS} {n m : Nat} {w0 w w' : World}
theorem Two.more {m' : Nat} (h : Two base L N i g j r s n m w0 w) (hm : m ≤ m') (hm' : m' ≤ 549755813887) : Two base L N i g j r s n m' w0 w := ⟨h.at_.more hm hm', h.dr, h.hj, h.ap, h.sn⟩
theorem two_add (h : Two base L N i g j r s n m w0 w) (x : Sl) (hb : Below w.heap.size w w') (hx : x.here base w') (ho : ∀ k, x.v.ownBlock = some k → w.heap.size ≤ k) : Two base (upd L N x) (N + 1) i g j r s n m w0 w' :=
  ⟨at_add h.at_ x hb hx ho, diskr_rows (N := N) (fun k hk => upd_ne (by omega)) h.dr h.hj, by have := h.hj; omega, h.ap, h.sn⟩
/-- An op in a box of its own. -/
theorem two_box (h : Two base L N i g j r s n m w0 w) (T : TypeId) (cs : List Value) (hl : cs.length ≤ 1000) : Two base (upd L N (osl w.heap.size T cs)) (N + 1) i g j r s n m w0 (w.alloc (.cells cs.toArray T)) :=
  two_add h _ (below_alloc (Below.refl _ _) _) ⟨by show cs.length = cs.length * 1; omega, .inr ⟨w.heap.size, cs.length, cs.toArray, rfl, h.at_.base, blk_new _ _, Nat.le_refl _, by show cs.length ≤ maxLen; simp only [maxLen]; omega, by show cs.toArray.size = cs.length * 1; rw [List.size_toArray]; omega, by show cs.take (cs.length * 1) = cs; rw [Nat.mul_one, List.take_length]⟩⟩ (fun k hk => by
    have : w.heap.size = k := by simpa [osl, Value.ownBlock] using hk
    omega)
end
theorem two_put {base : Nat} {L : Nat → Sl} {N i g j r : Nat} {s : DS} {n m : Nat} {w0 w w' : World} (h : Two base L N i g j r s n m w0 w) (t : Nat) (h1 : t < i ∨ i + 4 ≤ t) (h2 : t < j ∨ j + 3 ≤ t) (y : Sl) (M : Many base (upd L t y) N w') (B : Below base w0 w') : Two base (upd L t y) N i g j r s n m w0 w' :=
  ⟨⟨M, (by
    obtain ⟨k0, k1, k2, k3⟩ := h.at_.disk
    refine ⟨?_, ?_, ?_, ?_⟩
    · rw [upd_ne (by omega), upd_ne (by omega), upd_ne (by omega), upd_ne (by omega)]; exact k0
    · rw [upd_ne (by omega)]; exact k1
    · rw [upd_ne (by omega)]; exact k2
    · rw [upd_ne (by omega)]; exact k3), h.at_.hi, h.at_.ok, B, h.at_.hb, h.at_.hn, h.at_.hm⟩, (by
    obtain ⟨k0, k1, k2⟩ := h.dr
    refine ⟨?_, ?_, ?_⟩
    · rw [upd_ne (by omega), upd_ne (by omega), upd_ne (by omega)]; exact k0
    · rw [upd_ne (by omega)]; exact k1
    · rw [upd_ne (by omega)]; exact k2), h.hj, h.ap, h.sn⟩
theorem row_ints {base : Nat} {L : Nat → Sl} {N : Nat} {W : World} (h : Many base L N W) (t : Nat) (ht : t < N) (gl nl cl : Nat) (ks : List Int) (u : Value) (hL : L t = ⟨.slice (some ⟨gl, 0, none⟩) nl cl, 3, 1, nl, nums .i64 ks ++ [u]⟩) : Kd.C (Kd.int .i64) W (some ⟨gl, 0, none⟩) ks.length ks := by
  have ho := h.1 t ht
  unfold Sl.here at ho
  rw [hL] at ho
  have hl := ho.1
  rw [List.length_append] at hl
  have hn : (nums .i64 ks).length = ks.length := by unfold nums; rw [List.length_map]
  have hnl : nl ≤ maxLen := by
    rcases ho.2 with ⟨e, e2⟩ | ⟨g', cap', cur, e, _, _, h1, h2, _⟩
    · cases e
    · exact Nat.le_trans h1 h2
  refine ⟨rfl, (by have : nl ≤ 9223372036854775807 := (by simpa [maxLen] using hnl); have e : nl = ks.length + 1 := (by have : (nums .i64 ks).length + [u].length = nl * 1 := hl; rw [hn] at this; simp at this; omega); omega), fun h0 => ⟨_, rfl, fun j x hj => ⟨[.int .i64 x], rfl, rfl, fun i v hi => ?_⟩⟩⟩
  cases i with
  | succ i => simp at hi
  | zero =>
    simp only [List.getElem?_cons_zero, Option.some.injEq] at hi
    subst hi
    have hjl := (List.getElem?_eq_some_iff.1 hj).1
    have := ho.cells (g := gl) rfl j (.int .i64 x) (by
      show (nums .i64 ks ++ [u])[j]? = _
      rw [List.getElem?_append_left (by rw [hn]; exact hjl)]
      unfold nums
      rw [List.getElem?_map, hj]; rfl)
    have e : j * (Kd.int .i64).sz + 0 = j := by show j * 1 + 0 = j; omega
    rw [e]
    exact this
theorem stay_of {L L1 L2 : Nat → Sl} {N i j : Nat} {x : Sl} (e1 : Else (upd L N x) L1 i) (e2 : Else3 L1 L2 j) : Stay L L2 N i j := fun k hk h1 h2 => by
  rw [e2 k h2, e1 k h1, upd_ne (by omega)]
set_option maxHeartbeats 16000000 in
set_option maxRecDepth 100000 in
theorem plays_calls {base : Nat} {L : Nat → Sl} {N i g j r : Nat} {s : DS} {n m : Nat} {w0 w : World} (kd k : Int) (t : ByteArray) (ev : Bool) (A : Option Addr) (c : Nat) (ks : List Int)
    (hk : Kd.C (Kd.int .i64) w0 A ks.length ks) (hb0 : base = w0.heap.size) (hkc : ks.length ≤ c) (hkl : ks.length ≤ 1048576) (hkw : ∀ a ∈ ks, (Lit.int .i64 a).wf = true) (ht : t.size ≤ 1048576) (hk63 : k ≤ 9223372036854775807) (h : Two base L N i g j r s n m w0 w) (hm : m + 1 ≤ 549755813887) :
    Calls Try.prog 24 #[.pointer (some ⟨g, 0, none⟩), .pointer (some ⟨r, 0, none⟩), .agg #[.int .i64 kd, .int .i64 k, .string t, .bool ev, .slice A ks.length c]] w fun e w' => e = .returned (.bool true) ∧ ∃ L' N' s', N ≤ N' ∧ Two base L' N' i g j r s' n (m + 1) w0 w' ∧ Stay L L' N i j := by
  obtain ⟨tx, htx⟩ := text_total kd k t ev ks ht
  have HT := Aside0.mk htx
  have HKW := Aside0.mk hkw
  have HK : Aside0 (∀ W, Below base w0 W → Kd.C (Kd.int .i64) W A ks.length ks) := ⟨fun W hW => Kd.C_below hk (by rw [← hb0]; exact hW)⟩
  have H0 := Aside0.mk h
  clear h hk htx hkw
  have hu53 := Try.underlying53
  go_enter Try.func24, Try.ntmps24
  go_upto_region 1 with (fail)
  change Code.wp _ _ _ _ (w.alloc (.cells [Value.int .i64 kd, .int .i64 k, .string t, .bool ev, .slice A ks.length c].toArray 53))
  have H5 := Aside0.mk (two_box H0.out 53 [Value.int .i64 kd, .int .i64 k, .string t, .bool ev, .slice A ks.length c] (by show 5 ≤ 1000; decide))
  obtain ⟨gb, hgb⟩ : ∃ gb, gb = w.heap.size := ⟨_, rfl⟩
  have PB : (Value.pointer (some ⟨w.heap.size, 0, none⟩)) = .pointer (some ⟨gb, 0, none⟩) := by rw [hgb]
  rw [PB]
  rw [← hgb] at H5
  have BX : Aside0 (upd L N (osl gb 53 [.int .i64 kd, .int .i64 k, .string t, .bool ev, .slice A ks.length c]) N = osl gb 53 [.int .i64 kd, .int .i64 k, .string t, .bool ev, .slice A ks.length c]) := ⟨upd_at _ _ _⟩
  have ST0 : Aside0 (∀ L1 L2 : Nat → Sl, Else (upd L N (osl gb 53 [.int .i64 kd, .int .i64 k, .string t, .bool ev, .slice A ks.length c])) L1 i → Else3 L1 L2 j → Stay L L2 N i j) := ⟨fun L1 L2 e1 e2 => stay_of e1 e2⟩
  generalize upd L N (osl gb 53 [.int .i64 kd, .int .i64 k, .string t, .bool ev, .slice A ks.length c]) = L5 at H5 BX ST0
  generalize w.alloc (.cells [Value.int .i64 kd, .int .i64 k, .string t, .bool ev, .slice A ks.length c].toArray 53) = w5 at H5 ⊢
  have hNi := H0.out.at_.hi
  have hNj := H0.out.hj
  clear PB hgb H0
  obtain ⟨b0, _, _⟩ := obj_cell H5.out.at_.many N (by omega) gb 53 _ BX.out 0 (by show 0 < 5; decide)
  obtain ⟨b1, _, _⟩ := obj_cell H5.out.at_.many N (by omega) gb 53 _ BX.out 1 (by show 1 < 5; decide)
  replace b0 : w5.cell? ⟨gb, 0, none⟩ = some (.int .i64 kd) := b0
  replace b1 : w5.cell? ⟨gb, 1, none⟩ = some (.int .i64 k) := b1
  by_cases k1 : kd = 1
  · subst k1
    have HR := fun (W : World) => read_off (w := W) (base := base) (L := L5) (N := N + 1) (i := i) (g := g) (s := s) (n := n) (m := m) (w0 := w0)
    obtain ⟨x, hx⟩ : ∃ x, readS s k = x := ⟨_, rfl⟩
    have C17 := read_off H5.out.at_ k
    have C33 := two_read k H5.out
    rw [hx] at C17 C33
    obtain ⟨x1, x2⟩ := x
    clear hx HR
    go_wp2_with (first
      | (go_at_call 17; (with_reducible refine C17.mono ?_); rintro e w' ⟨rfl, hw⟩; obtain rfl := hw.symm)
      | (go_at_call 33; (with_reducible refine C33.mono ?_); rintro e w' ⟨rfl, hw⟩; obtain rfl := hw.symm))
    go_ret
    exact ⟨rfl, L5, N + 1, s, by omega, H5.out.more (by omega) hm, ST0.out L5 L5 (fun _ _ => rfl) (fun _ _ => rfl)⟩
  have z1 : (kd = 1) = False := eq_false k1
  have z1' : (kd == 1) = false := by simp [k1]
  by_cases k2 : kd = 2
  · subst k2
    have CT : ∀ W : World, Kd.C (Kd.int .i64) W A ks.length ks → Calls Try.prog 34 #[.agg #[.int .i64 2, .int .i64 k, .string t, .bool ev, .slice A ks.length c]] W fun e w' => e = .returned (.string tx) ∧ Below W.heap.size W w' := fun W hW => cofferlaw06_Op_text.calls 513 2 k t ev A c ks tx W hW hkc HT.out
    obtain ⟨x, hx⟩ : ∃ x, (writeS s k tx).2 = x := ⟨_, rfl⟩
    have C11 := fun (W : World) (hW : Below w5.heap.size w5 W) => at_write (H5.out.at_.below hW) k tx hm
    simp only [hx] at C11
    have C35 := fun (L6 : Nat → Sl) (w6 : World) (hh : Half base L6 (N + 1) i g j r (writeS s k tx).1 s n (m + 1) w0 w6) => two_write k tx hh
    simp only [hx] at C35
    have HKC := Aside0.mk (HK.out w5 H5.out.at_.bel)
    obtain ⟨b2, _, _⟩ := obj_cell H5.out.at_.many N (by omega) gb 53 _ BX.out 2 (by show 2 < 5; decide)
    obtain ⟨b3, _, _⟩ := obj_cell H5.out.at_.many N (by omega) gb 53 _ BX.out 3 (by show 3 < 5; decide)
    obtain ⟨b4, _, _⟩ := obj_cell H5.out.at_.many N (by omega) gb 53 _ BX.out 4 (by show 4 < 5; decide)
    have KB0 := Aside0.mk b0
    have KB1 := Aside0.mk b1
    have KB2 : Aside0 (w5.cell? ⟨gb, 2, none⟩ = some (.string t)) := ⟨b2⟩
    have KB3 : Aside0 (w5.cell? ⟨gb, 3, none⟩ = some (.bool ev)) := ⟨b3⟩
    have KB4 : Aside0 (w5.cell? ⟨gb, 4, none⟩ = some (.slice A ks.length c)) := ⟨b4⟩
    go_upto_region 7 with (fail)
    clear b0 b1 b2 b3 b4 hx
    refine start_ (n := 7) (S := fun W => Below w5.heap.size w5 W) (ds := [5]) #[false, false, false, false, false, false, false] (by kernel_rfl) rfl rfl (below_drew1 (Below.refl _ _)) (fun hHeld => ?_); refine with_tabW dpl.tab7 dpl.bits7 (fun HT_ HW_ => ?_)
    generalize World.drew _ = wR at hHeld ⊢
    refine pure_ (i := 0) (N := some 43) (v := ?_) (a' := ?_) #[true, false, false, false, false, false, false] rfl rfl (any_of HT_.out (by kernel_rfl)) (fun _ _ _ h => h) (Or.inl ⟨by rfl, ?_⟩) ?_ ?_
    rotate_left
    · intro w'
      go_simp
      with_reducible rfl
    rotate_left
    · simp only [Act.put, List.setIfInBounds_toArray, List.set_cons_zero, List.set_cons_succ, i64_w, i32_w]
      rfl
    refine pure_ (i := 1) (N := some 44) (v := ?_) (a' := ?_) #[true, true, false, false, false, false, false] rfl rfl (any_of HT_.out (by kernel_rfl)) (fun _ _ _ h => h) (Or.inl ⟨by rfl, ?_⟩) ?_ ?_
    rotate_left
    · intro w'
      go_simp
      with_reducible rfl
    rotate_left
    · simp only [Act.put, List.setIfInBounds_toArray, List.set_cons_zero, List.set_cons_succ, i64_w, i32_w]
      rfl
    refine take_ (i := 2) (N := some 45) (v := ?_) (a' := ?_) #[true, true, true, false, false, false, false] rfl rfl (take_ofW HT_.out HW_.out (by kernel_rfl)) (fun _ _ _ h => h) (Or.inl ⟨by rfl, ?_⟩) hHeld ?_ ?_
    rotate_left
    · rintro w' s0
      have hK := below_cell' s0 KB1.out
      go_simp
      with_reducible rfl
    rotate_left
    · simp only [Act.put, List.setIfInBounds_toArray, List.set_cons_zero, List.set_cons_succ, i64_w, i32_w]
      rfl
    refine take_ (i := 3) (N := some 46) (v := ?_) (a' := ?_) #[true, true, true, true, false, false, false] rfl rfl (take_ofW HT_.out HW_.out (by kernel_rfl)) (fun _ _ _ h => h) (Or.inl ⟨by rfl, ?_⟩) hHeld ?_ ?_
    rotate_left
    · rintro w' s0
      have hK0 := below_cell' s0 KB0.out
      have hK1 := below_cell' s0 KB1.out
      have hK2 := below_cell' s0 KB2.out
      have hK3 := below_cell' s0 KB3.out
      have hK4 := below_cell' s0 KB4.out
      go_simp
      with_reducible rfl
    rotate_left
    · simp only [Act.put, List.setIfInBounds_toArray, List.set_cons_zero, List.set_cons_succ, i64_w, i32_w]
      rfl
    refine one_ (i := 4) (N := some 47) #[true, true, true, true, true, false, false] rfl rfl (one_of HT_.out (by kernel_rfl)) (by decide) (fun K hK => ?_)
    refine goes_ Try.func34 (by kernel_rfl) rfl #[.agg #[.int .i64 2, .int .i64 k, .string t, .bool ev, .slice A ks.length c]] (by rfl) rfl rfl (by (try simp only [List.map_toArray, List.map_cons, List.map_nil]); first | done | rfl) ?_
    with_reducible refine (CT _ (Kd.C_below HKC.out hHeld)).mono ?_
    rintro e wa ⟨rfl, hb⟩
    refine ⟨_, rfl, ?_⟩
    have hb2 := below_then hHeld hHeld.size hb
    refine hK.out _ _ hb2 (fun hHeld => ?_)
    clear hK K
    refine norm_ (a' := ?_) ?_ ?_
    rotate_left
    · show Act.put _ (some 47) _ = _
      simp only [Act.put, List.setIfInBounds_toArray, List.set_cons_zero, List.set_cons_succ, i64_w, i32_w]
      rfl
    clear hb2 hb
    refine last_ (i := 5) (N := some 48) #[true, true, true, true, true, true, false] rfl rfl (one_of HT_.out (by kernel_rfl)) (by decide) (fun K hK => ?_)
    refine goes_ Try.func11 (by kernel_rfl) rfl #[.pointer (some ⟨g, 0, none⟩), .int .i64 k, .string tx] (by rfl) rfl rfl (by (try simp only [List.map_toArray, List.map_cons, List.map_nil]); first | done | rfl) ?_
    with_reducible refine (C11 _ hHeld).mono ?_
    rintro e w6 ⟨rfl, L6, h6, e6⟩
    refine ⟨_, rfl, ?_⟩
    refine hK.out _ _ ?_
    clear hK K
    refine norm_ (a' := ?_) ?_ ?_
    rotate_left
    · show Act.put _ (some 48) _ = _
      simp only [Act.put, List.setIfInBounds_toArray, List.set_cons_zero, List.set_cons_succ, i64_w, i32_w]
      rfl
    refine pure_ (i := 6) (N := some 11) (v := ?_) (a' := ?_) #[true, true, true, true, true, true, true] rfl rfl (any_of HT_.out (by kernel_rfl)) (fun _ _ _ h => h) (Or.inl ⟨by rfl, ?_⟩) ?_ ?_
    rotate_left
    · intro w'
      go_simp
      with_reducible rfl
    rotate_left
    · simp only [Act.put, List.setIfInBounds_toArray, List.set_cons_zero, List.set_cons_succ, i64_w, i32_w]
      rfl
    refine done_ (done_of HT_.out (by kernel_rfl)) ?_
    have H6 := Aside0.mk (H5.out.half h6 e6 (Nat.le_succ m))
    have E6 := Aside0.mk e6
    have BX6 : Aside0 (L6 N = osl gb 53 [.int .i64 2, .int .i64 k, .string t, .bool ev, .slice A ks.length c]) := ⟨(e6 N (.inr (by omega))).trans BX.out⟩
    clear h6 e6 hHeld KB0 KB1 KB2 KB3 KB4 HKC
    have HKC := Aside0.mk (HK.out w6 H6.out.at_.bel)
    obtain ⟨b0, _, _⟩ := obj_cell H6.out.at_.many N (by omega) gb 53 _ BX6.out 0 (by show 0 < 5; decide)
    obtain ⟨b1, _, _⟩ := obj_cell H6.out.at_.many N (by omega) gb 53 _ BX6.out 1 (by show 1 < 5; decide)
    obtain ⟨b2, _, _⟩ := obj_cell H6.out.at_.many N (by omega) gb 53 _ BX6.out 2 (by show 2 < 5; decide)
    obtain ⟨b3, _, _⟩ := obj_cell H6.out.at_.many N (by omega) gb 53 _ BX6.out 3 (by show 3 < 5; decide)
    obtain ⟨b4, _, _⟩ := obj_cell H6.out.at_.many N (by omega) gb 53 _ BX6.out 4 (by show 4 < 5; decide)
    have KB0 : Aside0 (w6.cell? ⟨gb, 0, none⟩ = some (.int .i64 2)) := ⟨b0⟩
    have KB1 : Aside0 (w6.cell? ⟨gb, 1, none⟩ = some (.int .i64 k)) := ⟨b1⟩
    have KB2 : Aside0 (w6.cell? ⟨gb, 2, none⟩ = some (.string t)) := ⟨b2⟩
    have KB3 : Aside0 (w6.cell? ⟨gb, 3, none⟩ = some (.bool ev)) := ⟨b3⟩
    have KB4 : Aside0 (w6.cell? ⟨gb, 4, none⟩ = some (.slice A ks.length c)) := ⟨b4⟩
    clear b0 b1 b2 b3 b4
    go_upto_region 8 with (fail)
    refine start_ (n := 9) (S := fun W => Below w6.heap.size w6 W) (ds := [6]) #[false, false, false, false, false, false, false, false, false] (by kernel_rfl) rfl rfl (below_drew1 (Below.refl _ _)) (fun hHeld => ?_); refine with_tabW dpl.tab8 dpl.bits8 (fun HT_ HW_ => ?_)
    generalize World.drew _ = wR at hHeld ⊢
    refine pure_ (i := 0) (N := some 49) (v := ?_) (a' := ?_) #[true, false, false, false, false, false, false, false, false] rfl rfl (any_of HT_.out (by kernel_rfl)) (fun _ _ _ h => h) (Or.inl ⟨by rfl, ?_⟩) ?_ ?_
    rotate_left
    · intro w'
      go_simp
      with_reducible rfl
    rotate_left
    · simp only [Act.put, List.setIfInBounds_toArray, List.set_cons_zero, List.set_cons_succ, i64_w, i32_w]
      rfl
    refine pure_ (i := 1) (N := some 50) (v := ?_) (a' := ?_) #[true, true, false, false, false, false, false, false, false] rfl rfl (any_of HT_.out (by kernel_rfl)) (fun _ _ _ h => h) (Or.inl ⟨by rfl, ?_⟩) ?_ ?_
    rotate_left
    · intro w'
      go_simp
      with_reducible rfl
    rotate_left
    · simp only [Act.put, List.setIfInBounds_toArray, List.set_cons_zero, List.set_cons_succ, i64_w, i32_w]
      rfl
    refine pure_ (i := 2) (N := some 51) (v := ?_) (a' := ?_) #[true, true, true, false, false, false, false, false, false] rfl rfl (any_of HT_.out (by kernel_rfl)) (fun _ _ _ h => h) (Or.inl ⟨by rfl, ?_⟩) ?_ ?_
    rotate_left
    · intro w'
      go_simp
      with_reducible rfl
    rotate_left
    · simp only [Act.put, List.setIfInBounds_toArray, List.set_cons_zero, List.set_cons_succ, i64_w, i32_w]
      rfl
    refine take_ (i := 3) (N := some 52) (v := ?_) (a' := ?_) #[true, true, true, true, false, false, false, false, false] rfl rfl (take_ofW HT_.out HW_.out (by kernel_rfl)) (fun _ _ _ h => h) (Or.inl ⟨by rfl, ?_⟩) hHeld ?_ ?_
    rotate_left
    · rintro w' s0
      have hK := below_cell' s0 KB1.out
      go_simp
      with_reducible rfl
    rotate_left
    · simp only [Act.put, List.setIfInBounds_toArray, List.set_cons_zero, List.set_cons_succ, i64_w, i32_w]
      rfl
    refine take_ (i := 4) (N := some 53) (v := ?_) (a' := ?_) #[true, true, true, true, true, false, false, false, false] rfl rfl (take_ofW HT_.out HW_.out (by kernel_rfl)) (fun _ _ _ h => h) (Or.inl ⟨by rfl, ?_⟩) hHeld ?_ ?_
    rotate_left
    · rintro w' s0
      have hK0 := below_cell' s0 KB0.out
      have hK1 := below_cell' s0 KB1.out
      have hK2 := below_cell' s0 KB2.out
      have hK3 := below_cell' s0 KB3.out
      have hK4 := below_cell' s0 KB4.out
      go_simp
      with_reducible rfl
    rotate_left
    · simp only [Act.put, List.setIfInBounds_toArray, List.set_cons_zero, List.set_cons_succ, i64_w, i32_w]
      rfl
    refine one_ (i := 5) (N := some 54) #[true, true, true, true, true, true, false, false, false] rfl rfl (one_of HT_.out (by kernel_rfl)) (by decide) (fun K hK => ?_)
    refine goes_ Try.func34 (by kernel_rfl) rfl #[.agg #[.int .i64 2, .int .i64 k, .string t, .bool ev, .slice A ks.length c]] (by rfl) rfl rfl (by (try simp only [List.map_toArray, List.map_cons, List.map_nil]); first | done | rfl) ?_
    with_reducible refine (CT _ (Kd.C_below HKC.out hHeld)).mono ?_
    rintro e wa ⟨rfl, hb⟩
    refine ⟨_, rfl, ?_⟩
    have hb2 := below_then hHeld hHeld.size hb
    refine hK.out _ _ hb2 (fun hHeld => ?_)
    clear hK K
    refine norm_ (a' := ?_) ?_ ?_
    rotate_left
    · show Act.put _ (some 54) _ = _
      simp only [Act.put, List.setIfInBounds_toArray, List.set_cons_zero, List.set_cons_succ, i64_w, i32_w]
      rfl
    clear hb2 hb
    refine last_ (i := 6) (N := some 55) #[true, true, true, true, true, true, true, false, false] rfl rfl (one_of HT_.out (by kernel_rfl)) (by decide) (fun K hK => ?_)
    refine goes_ Try.func35 (by kernel_rfl) rfl #[.pointer (some ⟨r, 0, none⟩), .int .i64 k, .string tx] (by rfl) rfl rfl (by (try simp only [List.map_toArray, List.map_cons, List.map_nil]); first | done | rfl) ?_
    with_reducible refine (C35 _ _ (H6.out.below hHeld)).mono ?_
    rintro e w7 ⟨rfl, L7, h7, e7⟩
    refine ⟨_, rfl, ?_⟩
    refine hK.out _ _ ?_
    clear hK K
    refine norm_ (a' := ?_) ?_ ?_
    rotate_left
    · show Act.put _ (some 55) _ = _
      simp only [Act.put, List.setIfInBounds_toArray, List.set_cons_zero, List.set_cons_succ, i64_w, i32_w]
      rfl
    refine pure_ (i := 7) (N := some 56) (v := ?_) (a' := ?_) #[true, true, true, true, true, true, true, true, false] rfl rfl (any_of HT_.out (by kernel_rfl)) (fun _ _ _ h => h) (Or.inl ⟨by rfl, ?_⟩) ?_ ?_
    rotate_left
    · intro w'
      go_simp
      with_reducible rfl
    rotate_left
    · simp only [Act.put, List.setIfInBounds_toArray, List.set_cons_zero, List.set_cons_succ, i64_w, i32_w]
      rfl
    refine pure_ (i := 8) (N := some 6) (v := ?_) (a' := ?_) #[true, true, true, true, true, true, true, true, true] rfl rfl (any_of HT_.out (by kernel_rfl)) (fun _ _ _ h => h) (Or.inl ⟨by rfl, ?_⟩) ?_ ?_
    rotate_left
    · intro w'
      go_simp
      with_reducible rfl
    rotate_left
    · simp only [Act.put, List.setIfInBounds_toArray, List.set_cons_zero, List.set_cons_succ, i64_w, i32_w]
      rfl
    refine done_ (done_of HT_.out (by kernel_rfl)) ?_
    have H7 := Aside0.mk h7
    have E7 := Aside0.mk e7
    clear h7 e7 hHeld
    go_wp2
    go_ret
    exact ⟨by first | rfl | simp, L7, N + 1, _, by omega, H7.out, ST0.out L6 L7 E6.out E7.out⟩
  have z2 : (kd = 2) = False := eq_false k2
  have z2' : (kd == 2) = false := by simp [k2]
  by_cases k3 : kd = 3
  · subst k3
    obtain ⟨x, hx⟩ : ∃ x, (flushS s).2 = x := ⟨_, rfl⟩
    have C13 := at_flush H5.out.at_
    have C36 := fun (L6 : Nat → Sl) (w6 : World) (hh : Half base L6 (N + 1) i g j r (flushS s).1 s n m w0 w6) => two_flush hh
    rw [hx] at C13 C36
    clear hx
    go_wp2_with (first
      | (go_at_call 13; (with_reducible refine C13.mono ?_); rintro e w6 ⟨rfl, L6, h6, e6⟩; have H6 := Aside0.mk (H5.out.half h6 e6 (Nat.le_refl _)); have E6 := Aside0.mk e6; clear h6 e6)
      | (go_at_call 36; (with_reducible refine (C36 _ _ H6.out).mono ?_); rintro e w7 ⟨rfl, L7, h7, e7⟩; have H7 := Aside0.mk h7; have E7 := Aside0.mk e7; clear h7 e7))
    go_ret
    exact ⟨rfl, L7, N + 1, _, by omega, H7.out.more (by omega) hm, ST0.out L6 L7 E6.out E7.out⟩
  have z3 : (kd = 3) = False := eq_false k3
  have z3' : (kd == 3) = false := by simp [k3]
  by_cases k4 : kd = 4
  · subst k4
    go_upto_region 14 with (go_at_call 14; (with_reducible refine (at_fall H5.out.at_ k hk63).mono ?_); rintro e w6 ⟨rfl, L6, h6, e6⟩; have H6 := Aside0.mk (H5.out.half h6 e6 (Nat.le_refl _)); have E6 := Aside0.mk e6; clear h6 e6)
    clear b0 b1
    obtain ⟨b1, _, _⟩ := obj_cell H6.out.at_.many N (by omega) gb 53 _ ((E6.out N (.inr (by omega))).trans BX.out) 1 (by show 1 < 5; decide)
    replace b1 : w6.cell? ⟨gb, 1, none⟩ = some (.int .i64 k) := b1
    go_wp2_with (go_at_call 37; (with_reducible refine (two_fall k H6.out).mono ?_); rintro e w7 ⟨rfl, L7, h7, e7⟩; have H7 := Aside0.mk h7; have E7 := Aside0.mk e7; clear h7 e7)
    go_ret
    exact ⟨rfl, L7, N + 1, _, by omega, H7.out.more (by omega) hm, ST0.out L6 L7 E6.out E7.out⟩
  have z4 : (kd = 4) = False := eq_false k4
  have z4' : (kd == 4) = false := by simp [k4]
  by_cases k5 : kd = 5
  · subst k5
    obtain ⟨b4, _, _⟩ := obj_cell H5.out.at_.many N (by omega) gb 53 _ BX.out 4 (by show 4 < 5; decide)
    replace b4 : w5.cell? ⟨gb, 4, none⟩ = some (.slice A ks.length c) := b4
    have hal := below_alloc (Below.refl w5.heap.size w5) (.cells #[] 3)
    have HO0 : (w5.alloc (.cells #[] 3)).ownsRow w5.heap.size 3 1 (.slice (some ⟨w5.heap.size, 0, none⟩) 0 0) ([] : List Int).length (nums .i64 []) := World.ownsRow_lit w5 #[] 0 (Nat.le_refl _) (by decide) rfl
    have HRD := reads_ints (Kd.C_below (HK.out w5 H5.out.at_.bel) hal)
    have HAL := Aside0.mk hal
    have hsz := hal.size
    have b4' := below_cell' hal b4
    clear hal
    go_upto_region 17 with ((with_reducible refine gate_dst (N := 80) rfl ?_); go_loud (refine print_append_row (w0 := w5) w5.heap.size rfl (.tmp 77) (.tmp 79) 23 3 .i64 8 rfl Try.underlying23 info3s (by decide) _ [] ks A ks.length c rfl rfl HO0 HRD HAL.out hsz (by show (0 + ks.length) * 8 ≤ _; omega) ?_); intro v1 w6 ho hb hg hat; have HO6 : Aside0 (w6.ownsRow w5.heap.size 3 1 v1 ks.length (nums .i64 ks)) := ⟨ho⟩; have HB6 := Aside0.mk hb; clear ho hb hg hat)
    have H6 := Aside0.mk (two_add H5.out ⟨v1, 3, 1, ks.length, nums .i64 ks⟩ HB6.out (own_lower HO6.out H5.out.at_.base) (fun k hk => (HO6.out.lt k hk).1))
    obtain ⟨v', w8, hr, M8, B8⟩ := many_grow 23 3 1 8 (.int .i64 0) Try.underlying23 info3s rfl (by decide) (by decide) H6.out.at_.many (N + 1) (by omega) _ _ _ (upd_at _ _ _) [.int .i64 (-77)] rfl (fun q hq => by rw [List.mem_singleton.1 hq]; rfl) H6.out.at_.bel H6.out.at_.base (by omega)
    obtain ⟨gl, cl, e8, hcl, _⟩ := many_form M8 (N + 1) (by omega) (by rw [upd_at]; show 0 < ks.length + 1; omega)
    rw [upd_at] at e8 hcl
    obtain ⟨nl, hnl⟩ : ∃ nl, nl = ks.length + 1 := ⟨_, rfl⟩
    have e8' : v' = .slice (some ⟨gl, 0, none⟩) nl cl := by rw [hnl]; exact e8
    have hcl' : nl ≤ cl := by rw [hnl]; exact hcl
    subst e8'
    have H8 := Aside0.mk (two_put H6.out (N + 1) (by omega) (by omega) _ M8 B8)
    have LR : Aside0 (upd (upd L5 (N + 1) ⟨v1, 3, 1, ks.length, nums .i64 ks⟩) (N + 1) ⟨.slice (some ⟨gl, 0, none⟩) nl cl, 3, 1, ks.length + 1, nums .i64 ks ++ [.int .i64 (-77)]⟩ (N + 1) = ⟨.slice (some ⟨gl, 0, none⟩) nl cl, 3, 1, nl, nums .i64 ks ++ [.int .i64 (-77)]⟩) := ⟨by rw [upd_at, hnl]⟩
    have BX8 : Aside0 (upd (upd L5 (N + 1) ⟨v1, 3, 1, ks.length, nums .i64 ks⟩) (N + 1) ⟨.slice (some ⟨gl, 0, none⟩) nl cl, 3, 1, ks.length + 1, nums .i64 ks ++ [.int .i64 (-77)]⟩ N = osl gb 53 [.int .i64 5, .int .i64 k, .string t, .bool ev, .slice A ks.length c]) := ⟨by rw [upd_ne (by omega), upd_ne (by omega)]; exact BX.out⟩
    have ST8 : Aside0 (∀ L1 L2 : Nat → Sl, Else (upd (upd L5 (N + 1) ⟨v1, 3, 1, ks.length, nums .i64 ks⟩) (N + 1) ⟨.slice (some ⟨gl, 0, none⟩) nl cl, 3, 1, ks.length + 1, nums .i64 ks ++ [.int .i64 (-77)]⟩) L1 i → Else3 L1 L2 j → Stay L L2 N i j) := ⟨fun L1 L2 e1 e2 q hq h1 h2 => by
      rw [e2 q h2, e1 q h1, upd_ne (by omega), upd_ne (by omega)]
      exact ST0.out L5 L5 (fun _ _ => rfl) (fun _ _ => rfl) q hq h1 h2⟩
    have HR := Aside0.mk hr
    generalize upd (upd L5 (N + 1) ⟨v1, 3, 1, ks.length, nums .i64 ks⟩) (N + 1) ⟨.slice (some ⟨gl, 0, none⟩) nl cl, 3, 1, ks.length + 1, nums .i64 ks ++ [.int .i64 (-77)]⟩ = L8 at H8 LR BX8 ST8
    have HNL := Aside0.mk hnl
    clear HO0 HRD HAL hsz b4 b4' b0 b1 M8 B8 e8 hr hcl hnl
    go_upto_region 18 with ((with_reducible refine gate_dst (N := 83) rfl ?_); go_loud (refine Kd.event_run rfl (exec_append (t := 23) (.tmp 81) (.tmp 82) rfl rfl _ _ rfl rfl HR.out) ?_))
    obtain ⟨b4, _, _⟩ := obj_cell H8.out.at_.many N (by omega) gb 53 _ BX8.out 4 (by show 4 < 5; decide)
    replace b4 : w8.cell? ⟨gb, 4, none⟩ = some (.slice A ks.length c) := b4
    have KC8 := row_ints H8.out.at_.many (N + 1) (by omega) gl nl cl ks _ LR.out
    have KC8a := Aside0.mk KC8
    have f1 : (ks.length ≤ cl) = True := eq_true (by have := HNL.out; omega)
    have f2 : ((ks.length : Int) ≤ (cl : Int)) = True := eq_true (by have := HNL.out; omega)
    have f3 : (cl < ks.length) = False := eq_false (by have := HNL.out; omega)
    have f4 : ((cl : Int) < (ks.length : Int)) = False := eq_false (by have := HNL.out; omega)
    clear KC8
    go_upto_region 19 with (go_at_call 15; (with_reducible refine (at_crash H8.out.at_ (some ⟨gl, 0, none⟩) cl ks KC8a.out (by omega) HKW.out).mono ?_); rintro e w9 ⟨rfl, L9, h9, e9⟩; have H9 := Aside0.mk (H8.out.half h9 e9 (Nat.le_refl _)); have E9 := Aside0.mk e9; clear h9 e9)
    clear f1 f2 f3 f4 b4 KC8a
    obtain ⟨b4, _, _⟩ := obj_cell H9.out.at_.many N (by omega) gb 53 _ ((E9.out N (.inr (by omega))).trans BX8.out) 4 (by show 4 < 5; decide)
    replace b4 : w9.cell? ⟨gb, 4, none⟩ = some (.slice A ks.length c) := b4
    have HKD : Aside0 (∀ W, Below base w9 W → Kd.C (Kd.int .i64) W A ks.length ks) := ⟨fun W hW => HK.out W (H9.out.at_.bel.trans hW)⟩
    go_upto_region 20 with (go_at_call 38; (with_reducible refine (two_crash A c ks HKD.out (by omega) H9.out).mono ?_); rintro e w10 ⟨rfl, L10, h10, e10⟩; have H10 := Aside0.mk h10; have E10 := Aside0.mk e10; clear h10 e10)
    have BX10 : Aside0 (L10 N = osl gb 53 [.int .i64 5, .int .i64 k, .string t, .bool ev, .slice A ks.length c]) := ⟨((E10.out N (.inr (by omega))).trans (E9.out N (.inr (by omega)))).trans BX8.out⟩
    have LR10 : Aside0 (L10 (N + 1) = ⟨.slice (some ⟨gl, 0, none⟩) nl cl, 3, 1, nl, nums .i64 ks ++ [.int .i64 (-77)]⟩) := ⟨((E10.out (N + 1) (.inr (by omega))).trans (E9.out (N + 1) (.inr (by omega)))).trans LR.out⟩
    clear b4 H9 HKD
    go_wp2
    go_loopw [14] (fun v14 W => ∃ q : Nat, q ≤ ks.length ∧ v14 = .int .i64 q ∧ Aside0 (Two base L10 (N + 1 + 1) i g j r (crashS s ks) n m w0 W)) (fun v14 _ => ks.length - (intOf v14).toNat)
    case atStart => exact ⟨0, Nat.zero_le _, rfl, H10⟩
    case round =>
      clear H10
      obtain ⟨q, hq, rfl, H10⟩ := hrel
      obtain ⟨b4, _, _⟩ := obj_cell H10.out.at_.many N (by omega) gb 53 _ BX10.out 4 (by show 4 < 5; decide)
      replace b4 : wr.cell? ⟨gb, 4, none⟩ = some (.slice A ks.length c) := b4
      obtain ⟨l0, _, _⟩ := many_cell H10.out.at_.many (N + 1) (by omega) gl cl (by rw [LR10.out]) q (by rw [LR10.out]; show q < nl * 1; have := HNL.out; omega)
      rw [LR10.out] at l0
      replace l0 : _ = (nums .i64 ks ++ [Value.int .i64 (-77)])[q]? := l0
      by_cases hlq : q < ks.length
      · have p1 : ((q : Int) < (ks.length : Int)) = True := eq_true (by omega)
        have p2 : (q < ks.length) = True := eq_true hlq
        have p3 : (ks.length ≤ q) = False := eq_false (by omega)
        have p4 : ((q : Int) < (nl : Int)) = True := eq_true (by have := HNL.out; omega)
        have p5 : (q < nl) = True := eq_true (by have := HNL.out; omega)
        have p6 : (nl ≤ q) = False := eq_false (by have := HNL.out; omega)
        obtain ⟨y, hy⟩ : ∃ y, ks[q]? = some y := ⟨_, List.getElem?_eq_getElem hlq⟩
        obtain ⟨ad, rfl, hc⟩ := ints_at (HK.out _ H10.out.at_.bel) q y hy
        have hnq : (nums .i64 ks)[q]? = some (.int .i64 y) := by unfold nums; rw [List.getElem?_map, hy]; rfl
        rw [List.getElem?_append_left (by unfold nums; rw [List.length_map]; exact hlq), hnq] at l0
        have KL := Aside0.mk l0
        have KB4 := Aside0.mk b4
        have KY := Aside0.mk hc
        go_upto_region 23 with (fail)
        clear l0 b4 hc hnq
        refine start_ (n := 10) (S := fun W => Below wr.heap.size wr W) (ds := []) #[false, false, false, false, false, false, false, false, false, false] (by kernel_rfl) rfl rfl (below_drew1 (Below.refl _ _)) (fun hHeld => ?_); refine with_tabW dpl.tab23 dpl.bits23 (fun HT_ HW_ => ?_)
        generalize World.drew _ = wR at hHeld ⊢
        refine pure_ (i := 0) (N := some 102) (v := ?_) (a' := ?_) #[true, false, false, false, false, false, false, false, false, false] rfl rfl (any_of HT_.out (by kernel_rfl)) (fun _ _ _ h => h) (Or.inl ⟨by rfl, ?_⟩) ?_ ?_
        rotate_left
        · intro w'
          go_simp
          with_reducible rfl
        rotate_left
        · simp only [Act.put, List.setIfInBounds_toArray, List.set_cons_zero, List.set_cons_succ, i64_w, i32_w]
          rfl
        refine pure_ (i := 1) (N := some 103) (v := ?_) (a' := ?_) #[true, true, false, false, false, false, false, false, false, false] rfl rfl (any_of HT_.out (by kernel_rfl)) (fun _ _ _ h => h) (Or.inl ⟨by rfl, ?_⟩) ?_ ?_
        rotate_left
        · intro w'
          go_simp
          with_reducible rfl
        rotate_left
        · simp only [Act.put, List.setIfInBounds_toArray, List.set_cons_zero, List.set_cons_succ, i64_w, i32_w]
          rfl
        refine pure_ (i := 2) (N := some 104) (v := ?_) (a' := ?_) #[true, true, true, false, false, false, false, false, false, false] rfl rfl (any_of HT_.out (by kernel_rfl)) (fun _ _ _ h => h) (Or.inl ⟨by rfl, ?_⟩) ?_ ?_
        rotate_left
        · intro w'
          go_simp
          with_reducible rfl
        rotate_left
        · simp only [Act.put, List.setIfInBounds_toArray, List.set_cons_zero, List.set_cons_succ, i64_w, i32_w]
          rfl
        refine take_ (i := 3) (N := some 105) (v := ?_) (a' := ?_) #[true, true, true, true, false, false, false, false, false, false] rfl rfl (take_ofW HT_.out HW_.out (by kernel_rfl)) (fun _ _ _ h => h) (Or.inl ⟨by rfl, ?_⟩) hHeld ?_ ?_
        rotate_left
        · rintro w' s0
          have hK := below_cell' s0 KL.out
          go_simp
          with_reducible rfl
        rotate_left
        · simp only [Act.put, List.setIfInBounds_toArray, List.set_cons_zero, List.set_cons_succ, i64_w, i32_w]
          rfl
        refine pure_ (i := 4) (N := some 106) (v := ?_) (a' := ?_) #[true, true, true, true, true, false, false, false, false, false] rfl rfl (any_of HT_.out (by kernel_rfl)) (fun _ _ _ h => h) (Or.inl ⟨by rfl, ?_⟩) ?_ ?_
        rotate_left
        · intro w'
          go_simp
          with_reducible rfl
        rotate_left
        · simp only [Act.put, List.setIfInBounds_toArray, List.set_cons_zero, List.set_cons_succ, i64_w, i32_w]
          rfl
        refine take_ (i := 5) (N := some 107) (v := ?_) (a' := ?_) #[true, true, true, true, true, true, false, false, false, false] rfl rfl (take_ofW HT_.out HW_.out (by kernel_rfl)) (fun _ _ _ h => h) (Or.inl ⟨by rfl, ?_⟩) hHeld ?_ ?_
        rotate_left
        · rintro w' s0
          have hK := below_cell' s0 KB4.out
          go_simp
          with_reducible rfl
        rotate_left
        · simp only [Act.put, List.setIfInBounds_toArray, List.set_cons_zero, List.set_cons_succ, i64_w, i32_w]
          rfl
        refine pure_ (i := 6) (N := some 108) (v := ?_) (a' := ?_) #[true, true, true, true, true, true, true, false, false, false] rfl rfl (any_of HT_.out (by kernel_rfl)) (fun _ _ _ h => h) (Or.inl ⟨by rfl, ?_⟩) ?_ ?_
        rotate_left
        · intro w'
          go_simp
          with_reducible rfl
        rotate_left
        · simp only [Act.put, List.setIfInBounds_toArray, List.set_cons_zero, List.set_cons_succ, i64_w, i32_w]
          rfl
        refine pure_ (i := 7) (N := some 109) (v := ?_) (a' := ?_) #[true, true, true, true, true, true, true, true, false, false] rfl rfl (any_of HT_.out (by kernel_rfl)) (fun _ _ _ h => h) (Or.inl ⟨by rfl, ?_⟩) ?_ ?_
        rotate_left
        · intro w'
          go_simp
          with_reducible rfl
        rotate_left
        · simp only [Act.put, List.setIfInBounds_toArray, List.set_cons_zero, List.set_cons_succ, i64_w, i32_w]
          rfl
        refine take_ (i := 8) (N := some 110) (v := ?_) (a' := ?_) #[true, true, true, true, true, true, true, true, true, false] rfl rfl (take_ofW HT_.out HW_.out (by kernel_rfl)) (fun _ _ _ h => h) (Or.inl ⟨by rfl, ?_⟩) hHeld ?_ ?_
        rotate_left
        · rintro w' s0
          have hK := below_cell' s0 KY.out
          go_simp
          with_reducible rfl
        rotate_left
        · simp only [Act.put, List.setIfInBounds_toArray, List.set_cons_zero, List.set_cons_succ, i64_w, i32_w]
          rfl
        refine pure_ (i := 9) (N := some 111) (v := ?_) (a' := ?_) #[true, true, true, true, true, true, true, true, true, true] rfl rfl (any_of HT_.out (by kernel_rfl)) (fun _ _ _ h => h) (Or.inl ⟨by rfl, ?_⟩) ?_ ?_
        rotate_left
        · intro w'
          go_simp
          with_reducible rfl
        rotate_left
        · simp only [Act.put, List.setIfInBounds_toArray, List.set_cons_zero, List.set_cons_succ, i64_w, i32_w]
          rfl
        refine done_ (done_of HT_.out (by kernel_rfl)) ?_
        have H11 := Aside0.mk (H10.out.below hHeld)
        clear hHeld
        go_wp2
        exact ⟨⟨q + 1, by omega, by go_num, H11⟩, by simp [intOf]; omega⟩
      · have p1 : ((q : Int) < (ks.length : Int)) = False := eq_false (by omega)
        obtain rfl : q = ks.length := by omega
        have p5 : (ks.length < nl) = True := eq_true (by have := HNL.out; omega)
        have p6 : (nl ≤ ks.length) = False := eq_false (by have := HNL.out; omega)
        have p4 : ((ks.length : Int) < (nl : Int)) = True := eq_true (by have := HNL.out; omega)
        have hnl0 : (nums .i64 ks).length = ks.length := by unfold nums; rw [List.length_map]
        rw [List.getElem?_append_right (by omega), hnl0, Nat.sub_self] at l0
        replace l0 : _ = some (Value.int .i64 (-77)) := l0
        clear hnl0
        go_wp2
        go_ret
        exact ⟨rfl, L10, N + 1 + 1, _, by omega, H10.out.more (by omega) hm, ST8.out L9 L10 E9.out E10.out⟩
  have z5 : (kd = 5) = False := eq_false k5
  have z5' : (kd == 5) = false := by simp [k5]
  by_cases k6 : kd = 6
  · subst k6
    go_wp2_with (first
      | (go_at_call 16; (with_reducible refine (at_on H5.out.at_).mono ?_); rintro e w6 ⟨rfl, L6, h6, e6⟩; have H6 := Aside0.mk (H5.out.half h6 e6 (Nat.le_refl _)); have E6 := Aside0.mk e6; clear h6 e6)
      | (go_at_call 39; (with_reducible refine (two_on H6.out).mono ?_); rintro e w7 ⟨rfl, L7, h7, e7⟩; have H7 := Aside0.mk h7; have E7 := Aside0.mk e7; clear h7 e7))
    go_ret
    exact ⟨rfl, L7, N + 1, _, by omega, H7.out.more (by omega) hm, ST0.out L6 L7 E6.out E7.out⟩
  have z6 : (kd = 6) = False := eq_false k6
  have z6' : (kd == 6) = false := by simp [k6]
  go_wp2
  go_ret
  exact ⟨rfl, L5, N + 1, s, by omega, H5.out.more (by omega) hm, ST0.out L5 L5 (fun _ _ => rfl) (fun _ _ => rfl)⟩
end Go.Proofs.Ytebhmbdblifddaa.Dk
