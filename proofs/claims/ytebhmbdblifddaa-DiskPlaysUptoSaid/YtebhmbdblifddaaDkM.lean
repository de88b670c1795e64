/- Chapter 6: DiskFalls, walked. -/
import Derived.Test.YtebhmbdblifddaaDkL
namespace Go.Proofs.Ytebhmbdblifddaa.Dk
open Go.RowKit Go.Maps Go.Proofs.Ytebhmbdblifddaa.X Go.Proofs.YtebhmbdblifddaaW.PrintWords Go.Proofs.YtebhmbdblifddaaW.PrintLast Go.Proofs.YtebhmbdblifddaaW.PrintMore
set_option linter.unusedVariables false
set_option linter.unusedSimpArgs false

/-- Behind i calls, the power going at the k-th. -/
structure FInv (s : DS) (k i : Nat) : Prop where
  offo : s.off = true → s.opn = true
  live : (k = 0 ∨ i < k) → s.off = false ∧ s.fall = ((k - i : Nat) : Int)
  dead : (0 < k ∧ k ≤ i) → s.off = true
theorem finv_fall {s : DS} {k i : Nat} (h : FInv s k i) (hl : k = 0 ∨ i < k) : (fallS s).off = decide (0 < k ∧ k ≤ i + 1) ∧ ((fallS s).off = true → (fallS s).opn = true) ∧ ((k = 0 ∨ i + 1 < k) → (fallS s).fall = ((k - (i + 1) : Nat) : Int)) := by
  obtain ⟨h1, h2⟩ := h.live hl
  unfold fallS
  by_cases hk : k = 0
  · subst hk
    rw [if_neg (by omega)]
    exact ⟨by rw [h1]; simp, h.offo, fun _ => by rw [h2]; omega⟩
  · rw [if_pos (by omega)]
    by_cases h3 : s.fall = 1
    · rw [if_pos h3]
      exact ⟨by rw [decide_eq_true (by omega)], fun _ => rfl, fun h4 => by omega⟩
    · rw [if_neg h3]
      exact ⟨by show s.off = _; rw [h1, decide_eq_false (by omega)], fun h4 => (by rw [show s.off = true from h4] at h1; cases h1), fun h4 => by show s.fall - 1 = _; omega⟩
theorem finv_write {s : DS} {k i : Nat} (h : FInv s k i) (m : Nat) (hm : m < s.seen.length) (x : ByteArray) (hx : x.size = 512) : FInv (writeS s m x).1 k (i + 1) ∧ (writeS s m x).2 = (if 0 < k ∧ k ≤ i + 1 then 9 else 0) ∧ (writeS s m x).1.off = decide (0 < k ∧ k ≤ i + 1) := by
  by_cases hl : k = 0 ∨ i < k
  · obtain ⟨h1, _⟩ := h.live hl
    obtain ⟨f1, f2, f3⟩ := finv_fall h hl
    unfold writeS
    rw [if_neg (by rw [h1]; decide), if_neg (fun hn => hn ⟨⟨by omega, by omega⟩, hx⟩)]
    by_cases ho : 0 < k ∧ k ≤ i + 1
    · rw [decide_eq_true ho] at f1
      rw [if_pos f1, if_pos ho, decide_eq_true ho]
      exact ⟨⟨f2, fun hh => by omega, fun _ => f1⟩, rfl, f1⟩
    · rw [decide_eq_false ho] at f1
      rw [if_neg (by rw [f1]; decide), if_neg ho, decide_eq_false ho]
      exact ⟨⟨fun hh => f2 hh, fun hh => ⟨f1, f3 hh⟩, fun hh => absurd hh ho⟩, rfl, f1⟩
  · have h1 := h.dead (by omega)
    unfold writeS
    rw [if_pos h1, if_pos (by omega), decide_eq_true (by omega)]
    exact ⟨⟨h.offo, fun hh => by omega, fun _ => h1⟩, rfl, h1⟩
theorem finv_flush {s : DS} {k i : Nat} (h : FInv s k i) : FInv (flushS s).1 k (i + 1) ∧ (flushS s).2 = (if 0 < k ∧ k ≤ i + 1 then 9 else 0) ∧ (flushS s).1.off = decide (0 < k ∧ k ≤ i + 1) := by
  by_cases hl : k = 0 ∨ i < k
  · obtain ⟨h1, _⟩ := h.live hl
    obtain ⟨f1, f2, f3⟩ := finv_fall h hl
    unfold flushS
    rw [if_neg (by rw [h1]; decide)]
    by_cases ho : 0 < k ∧ k ≤ i + 1
    · rw [decide_eq_true ho] at f1
      rw [if_pos f1, if_pos ho, decide_eq_true ho]
      exact ⟨⟨f2, fun hh => by omega, fun _ => f1⟩, rfl, f1⟩
    · rw [decide_eq_false ho] at f1
      rw [if_neg (by rw [f1]; decide), if_neg ho, decide_eq_false ho]
      exact ⟨⟨fun hh => f2 hh, fun hh => ⟨f1, f3 hh⟩, fun hh => absurd hh ho⟩, rfl, f1⟩
  · have h1 := h.dead (by omega)
    unfold flushS
    rw [if_pos h1, if_pos (by omega), decide_eq_true (by omega)]
    exact ⟨⟨h.offo, fun hh => by omega, fun _ => h1⟩, rfl, h1⟩
theorem write_arg {s : DS} (h : s.off = false) (n : Int) (x : ByteArray) (hb : ¬ ((0 ≤ n ∧ n < s.seen.length) ∧ x.size = 512)) : writeS s n x = (s, 1) := by
  unfold writeS
  rw [if_neg (by rw [h]; decide), if_pos hb]
/-- Behind the crash all is well again. -/
theorem after_crash {s : DS} {n m : Nat} (ho : s.off = true → s.opn = true) (hok : OkS s n m) (hn : 0 < n) (x : ByteArray) (hx : x.size = 512) : (writeS (onS (crashS s [])) 0 x).2 = 0 ∧ (flushS (writeS (onS (crashS s [])) 0 x).1).2 = 0 := by
  have hno : ¬ (s.off = true ∧ s.opn = false) := fun hh => by
    have := ho hh.1
    rw [hh.2] at this; cases this
  obtain ⟨l, hl⟩ : ∃ l, l = done s.safe (keptW [] s.pend 0) := ⟨_, rfl⟩
  have hll : l.length = n := by rw [hl, done_len]; exact hok.safe
  have e : onS (crashS s []) = { seen := l, safe := l, pend := [], fall := 0, off := false, opn := false } := by
    unfold crashS onS
    rw [if_neg hno, ← hl]; rfl
  rw [e]
  have e2 : writeS { seen := l, safe := l, pend := [], fall := 0, off := false, opn := false } 0 x = ({ seen := l.set 0 x, safe := l, pend := [(0, x)], fall := 0, off := false, opn := false }, 0) := by
    unfold writeS
    rw [if_neg (by show ¬ (false = true); decide), if_neg (fun hh => hh ⟨⟨by omega, by show (0 : Int) < (l.length : Int); omega⟩, hx⟩)]; rfl
  rw [e2]
  exact ⟨rfl, rfl⟩
theorem At.more {base : Nat} {L : Nat → Sl} {N i g : Nat} {s : DS} {n m m' : Nat} {w0 w : World} (h : At base L N i g s n m w0 w) (hm : m ≤ m') (hm' : m' ≤ 549755813887) : At base L N i g s n m' w0 w := ⟨h.many, h.disk, h.hi, ok_more h.ok hm, h.bel, h.hb, h.hn, hm'⟩
theorem crash_nil {base : Nat} {L : Nat → Sl} {N i g : Nat} {s : DS} {n m : Nat} {w0 w : World} (h : At base L N i g s n m w0 w) :
    Calls Try.prog 15 #[.pointer (some ⟨g, 0, none⟩), .slice none 0 0] w fun e w' => e = .returned (.tuple #[]) ∧ ∃ L', At base L' N i g (crashS s []) n m w0 w' ∧ Else L L' i :=
  at_crash h none 0 [] (C_nil w) (by decide) (fun a ha => by cases ha)
theorem bools_at {W : World} {A : Option Addr} {n : Nat} {bs : List Bool} (h : Kd.C Kd.bool W A n bs) (j : Nat) (b : Bool) (hj : bs[j]? = some b) : ∃ ad : Addr, A = some ad ∧ W.cell? (ad.add j) = some (.bool b) := by
  have hjl := (List.getElem?_eq_some_iff.1 hj).1
  obtain ⟨h1, _, h3⟩ := h
  obtain ⟨ad, e, h4⟩ := h3 (by omega)
  obtain ⟨c, hc, hk, hcell⟩ := h4 j b hj
  have e2 : c = [.bool b] := hk
  subst e2
  have := hcell 0 (.bool b) rfl
  have e3 : j * Kd.bool.sz + 0 = j := by show j * 1 + 0 = j; omega
  rw [e3] at this
  exact ⟨ad, e, this⟩
set_option maxHeartbeats 8000000 in
set_option maxRecDepth 100000 in
theorem falls_walk (n : Int) (A : Option Addr) (c : Nat) (bs : List Bool) (w : World) (hb : Kd.C Kd.bool w A bs.length bs) (hl : bs.length ≤ 1048576) :
    Calls Try.prog 4 #[.int .i64 n, .slice A bs.length c] w fun e w' => e = .returned (.bool true) ∧ Below w.heap.size w w' := by
  have HP := Aside0.mk hb
  clear hb
  have HMD : ∀ W : World, Calls Try.prog 9 #[.int .i64 4] W fun e w' => ∃ g L', e = .returned (.pointer (some ⟨g, 0, none⟩)) ∧ At W.heap.size L' 4 0 g (freshS 4) 4 0 W w' := fun W => made_calls (n := 4) W (by decide) (by decide)
  obtain ⟨hl0, hl1⟩ := least_in n 20 (by decide)
  have HLS := fun W => least_calls n 20 (by decide) (by decide) W
  obtain ⟨k, hk⟩ : ∃ k : Nat, leastF n 20 = k := ⟨(leastF n 20).toNat, by omega⟩
  rw [hk] at HLS
  have hk20 : k < 20 := by omega
  clear hl0 hl1 hk
  go_enter Try.func4, Try.ntmps4
  go_wp2_with (first
    | (go_at_call 8; (with_reducible refine (head_calls _).mono ?_); rintro e w1 ⟨rfl, hb⟩; have n1 := Aside0.mk (Kd.C_below HP.out hb); have D0 := Aside0.mk hb; clear HP hb; have HP := n1; clear n1)
    | (go_at_call 9; (with_reducible refine (HMD _).mono ?_); rintro e w2 ⟨g, L2, rfl, h'⟩; have H := Aside0.mk h'; clear h')
    | (go_at_call 10; (with_reducible refine (HLS _).mono ?_); rintro e w3 ⟨rfl, hb⟩; have h' := H.out.below hb; clear hb; have n_H := Aside0.mk h'; clear H h'; have H := n_H; clear n_H)
    | (go_at_call 14; (with_reducible refine (at_fall H.out ((k : Int) + 40) (by omega)).mono ?_); rintro e w4 ⟨rfl, L4, h', _⟩; have n_H := Aside0.mk h'; clear H h'; have H := n_H; clear n_H)
    | (go_at_call 14; (with_reducible refine (at_fall H.out (k : Int) (by omega)).mono ?_); rintro e w5 ⟨rfl, L5, h', _⟩; have n_H := Aside0.mk h'; clear H h'; have H := n_H; clear n_H))
  have HF0 : Aside0 (FInv { ({ freshS 4 with fall := max 0 ((k : Int) + 40) } : DS) with fall := max 0 (k : Int) } k 0) := ⟨⟨fun h => (by cases h), fun _ => ⟨rfl, (by show max 0 (k : Int) = _; omega)⟩, fun h => (by omega)⟩⟩
  clear HMD HLS
  go_loopw [7] (fun v7 W => ∃ (i : Nat) (L : Nat → Sl) (s : DS), i ≤ bs.length ∧ v7 = .int .i64 i ∧ Aside0 (At w1.heap.size L 4 0 g s 4 (3 * i) w1 W) ∧ Aside0 (FInv s k i)) (fun v7 _ => bs.length - (intOf v7).toNat)
  case atStart => exact ⟨0, _, _, Nat.zero_le _, rfl, H, HF0⟩
  case round =>
    clear H HF0
    obtain ⟨i, L, s, hi, rfl, H, HF⟩ := hrel
    by_cases hlt : i < bs.length
    · have q1 : ((i : Int) < (bs.length : Int)) = True := eq_true (by omega)
      have q2 : (i < bs.length) = True := eq_true hlt
      have q3 : (bs.length ≤ i) = False := eq_false (by omega)
      obtain ⟨b, hpk⟩ : ∃ b, bs[i]? = some b := ⟨_, List.getElem?_eq_getElem hlt⟩
      obtain ⟨ad, rfl, _⟩ := bools_at (Kd.C_below HP.out H.out.bel) i b hpk
      have CB : ∀ (W : World) (L : Nat → Sl) (s : DS) (m : Nat), At w1.heap.size L 4 0 g s 4 m w1 W → W.cell? (ad.add i) = some (.bool b) := fun W L s m hW => by
        obtain ⟨_, e0, h⟩ := bools_at (Kd.C_below HP.out hW.bel) i b hpk
        injection e0 with e0
        subst e0
        exact h
      obtain ⟨fx, hfx⟩ : ∃ z, z = F 120 := ⟨_, rfl⟩
      have sx : fx.size = 512 := by rw [hfx]; exact F_size 120
      have FX : ∀ W : World, Calls Try.prog 12 #[.int .u8 120] W fun e w' => e = .returned (.string fx) ∧ Below W.heap.size W w' := fun W => by rw [hfx]; exact full_calls 120 W
      clear hfx
      have hsl := H.out.ok.seen
      obtain ⟨cb, hcb⟩ : ∃ cb, cb = UInt8.ofNat i := ⟨_, rfl⟩
      have hm4 : i % 4 < 4 := Nat.mod_lt _ (by decide)
      obtain ⟨m, hm⟩ : ∃ m, m = i % 4 := ⟨_, rfl⟩
      have tm : Int.tmod (i : Int) 4 = (m : Int) := by rw [hm]; exact (Int.ofNat_tmod i 4).symm
      have wc8 : IntKind.u8.wrap (i : Int) = ((cb.toNat : Nat) : Int) := by rw [hcb]; show ((i : Int)) % 256 = _; rw [UInt8.toNat_ofNat']; omega
      rw [← hm] at hm4
      have FU := fun W => full_calls cb W
      obtain ⟨fw0, fw1, fw2⟩ := finv_write HF.out m (by rw [hsl]; exact hm4) (F cb) (F_size cb)
      obtain ⟨ff0, ff1, ff2⟩ := finv_flush HF.out
      clear hm hcb
      have FW0 := Aside0.mk fw0
      have FF0 := Aside0.mk ff0
      clear fw0 ff0 hm4
      by_cases hc : k = 0 ∨ i + 1 < k
      · have hno : ¬ (0 < k ∧ k ≤ i + 1) := by omega
        rw [if_neg hno] at fw1 ff1
        rw [decide_eq_false hno] at fw2 ff2
        have hof := (HF.out.live (by omega)).1
        have A1 := write_arg hof 4 fx (by rw [hsl]; intro hh; exact absurd hh.1.2 (by decide))
        have A2 := write_arg hof 0 ⟨#[120]⟩ (fun hh => absurd hh.2 (by decide))
        clear hof hsl
        by_cases hk0 : k = 0
        · have q4 : ((i : Int) + 1 < (k : Int)) = False := eq_false (by omega)
          have q5 : ((0 : Int) < (k : Int)) = False := eq_false (by omega)
          have q9 : (0 < k) = False := eq_false (by omega)
          have q7 : ((k : Int) = 0) = True := eq_true (by omega)
          have q8 : ((k : Int) == 0) = true := by simp; omega
          have q10 : (k = 0) = True := eq_true hk0
          clear hc hno hk0
          cases b with
          | true =>
            go_wp2_with (first
              | (go_at_call 12; (with_reducible refine (FX _).mono ?_); rintro e w6 ⟨rfl, hb⟩; have h' := H.out.below hb; clear hb; have n_H := Aside0.mk h'; clear H h'; have H := n_H; clear n_H)
              | (go_at_call 11; (with_reducible refine (at_write H.out 4 fx (by omega)).mono ?_); rintro e w7 ⟨rfl, L7, h', _⟩; rw [A1] at h'; have n_H := Aside0.mk h'; clear H h'; have H := n_H; clear n_H)
              | (go_at_call 11; (with_reducible refine (at_write H.out 0 ⟨#[120]⟩ (by omega)).mono ?_); rintro e w8 ⟨rfl, L8, h', _⟩; rw [A2] at h'; have hcell := CB _ _ _ _ h'; have n_H := Aside0.mk h'; clear H h'; have H := n_H; clear n_H)
              | (go_at_call 13; (with_reducible refine (at_flush H.out).mono ?_); rintro e w9 ⟨rfl, L9, h', _⟩; have n_H := Aside0.mk h'; clear H h'; have H := n_H; clear n_H)
              | (go_at_call 18; (with_reducible refine (off_calls H.out.many H.out.disk H.out.hi).mono ?_); rintro e w' ⟨rfl, rfl⟩))
            exact ⟨⟨i + 1, _, _, by omega, by go_num, ⟨H.out.more (by omega) (by omega)⟩, FF0⟩, by simp [intOf]; omega⟩
          | false =>
            go_wp2_with (first
              | (go_at_call 12; (with_reducible refine (FX _).mono ?_); rintro e w6 ⟨rfl, hb⟩; have h' := H.out.below hb; clear hb; have n_H := Aside0.mk h'; clear H h'; have H := n_H; clear n_H)
              | (go_at_call 11; (with_reducible refine (at_write H.out 4 fx (by omega)).mono ?_); rintro e w7 ⟨rfl, L7, h', _⟩; rw [A1] at h'; have n_H := Aside0.mk h'; clear H h'; have H := n_H; clear n_H)
              | (go_at_call 11; (with_reducible refine (at_write H.out 0 ⟨#[120]⟩ (by omega)).mono ?_); rintro e w8 ⟨rfl, L8, h', _⟩; rw [A2] at h'; have hcell := CB _ _ _ _ h'; have n_H := Aside0.mk h'; clear H h'; have H := n_H; clear n_H)
              | (go_at_call 12; (with_reducible refine (FU _).mono ?_); rintro e w9 ⟨rfl, hb⟩; have h' := H.out.below hb; clear hb; have n_H := Aside0.mk h'; clear H h'; have H := n_H; clear n_H)
              | (go_at_call 11; (with_reducible refine (at_write H.out (m : Int) (F cb) (by omega)).mono ?_); rintro e w10 ⟨rfl, L9, h', _⟩; have n_H := Aside0.mk h'; clear H h'; have H := n_H; clear n_H)
              | (go_at_call 18; (with_reducible refine (off_calls H.out.many H.out.disk H.out.hi).mono ?_); rintro e w' ⟨rfl, rfl⟩))
            exact ⟨⟨i + 1, _, _, by omega, by go_num, ⟨H.out.more (by omega) (by omega)⟩, FW0⟩, by simp [intOf]; omega⟩
        · have q4 : ((i : Int) + 1 < (k : Int)) = True := eq_true (by omega)
          have q5 : ((0 : Int) < (k : Int)) = True := eq_true (by omega)
          have q9 : (0 < k) = True := eq_true (by omega)
          have q6 : ((k : Int) ≤ (i : Int) + 1) = False := eq_false (by omega)
          clear hc hno hk0
          cases b with
          | true =>
            go_wp2_with (first
              | (go_at_call 12; (with_reducible refine (FX _).mono ?_); rintro e w6 ⟨rfl, hb⟩; have h' := H.out.below hb; clear hb; have n_H := Aside0.mk h'; clear H h'; have H := n_H; clear n_H)
              | (go_at_call 11; (with_reducible refine (at_write H.out 4 fx (by omega)).mono ?_); rintro e w7 ⟨rfl, L7, h', _⟩; rw [A1] at h'; have n_H := Aside0.mk h'; clear H h'; have H := n_H; clear n_H)
              | (go_at_call 11; (with_reducible refine (at_write H.out 0 ⟨#[120]⟩ (by omega)).mono ?_); rintro e w8 ⟨rfl, L8, h', _⟩; rw [A2] at h'; have hcell := CB _ _ _ _ h'; have n_H := Aside0.mk h'; clear H h'; have H := n_H; clear n_H)
              | (go_at_call 13; (with_reducible refine (at_flush H.out).mono ?_); rintro e w9 ⟨rfl, L9, h', _⟩; have n_H := Aside0.mk h'; clear H h'; have H := n_H; clear n_H)
              | (go_at_call 18; (with_reducible refine (off_calls H.out.many H.out.disk H.out.hi).mono ?_); rintro e w' ⟨rfl, rfl⟩))
            exact ⟨⟨i + 1, _, _, by omega, by go_num, ⟨H.out.more (by omega) (by omega)⟩, FF0⟩, by simp [intOf]; omega⟩
          | false =>
            go_wp2_with (first
              | (go_at_call 12; (with_reducible refine (FX _).mono ?_); rintro e w6 ⟨rfl, hb⟩; have h' := H.out.below hb; clear hb; have n_H := Aside0.mk h'; clear H h'; have H := n_H; clear n_H)
              | (go_at_call 11; (with_reducible refine (at_write H.out 4 fx (by omega)).mono ?_); rintro e w7 ⟨rfl, L7, h', _⟩; rw [A1] at h'; have n_H := Aside0.mk h'; clear H h'; have H := n_H; clear n_H)
              | (go_at_call 11; (with_reducible refine (at_write H.out 0 ⟨#[120]⟩ (by omega)).mono ?_); rintro e w8 ⟨rfl, L8, h', _⟩; rw [A2] at h'; have hcell := CB _ _ _ _ h'; have n_H := Aside0.mk h'; clear H h'; have H := n_H; clear n_H)
              | (go_at_call 12; (with_reducible refine (FU _).mono ?_); rintro e w9 ⟨rfl, hb⟩; have h' := H.out.below hb; clear hb; have n_H := Aside0.mk h'; clear H h'; have H := n_H; clear n_H)
              | (go_at_call 11; (with_reducible refine (at_write H.out (m : Int) (F cb) (by omega)).mono ?_); rintro e w10 ⟨rfl, L9, h', _⟩; have n_H := Aside0.mk h'; clear H h'; have H := n_H; clear n_H)
              | (go_at_call 18; (with_reducible refine (off_calls H.out.many H.out.disk H.out.hi).mono ?_); rintro e w' ⟨rfl, rfl⟩))
            exact ⟨⟨i + 1, _, _, by omega, by go_num, ⟨H.out.more (by omega) (by omega)⟩, FW0⟩, by simp [intOf]; omega⟩
      · have hyes : 0 < k ∧ k ≤ i + 1 := by omega
        rw [if_pos hyes] at fw1 ff1
        rw [decide_eq_true hyes] at fw2 ff2
        have q4 : ((i : Int) + 1 < (k : Int)) = False := eq_false (by omega)
        have q5 : ((0 : Int) < (k : Int)) = True := eq_true (by omega)
        have q9 : (0 < k) = True := eq_true (by omega)
        have q10 : (k = 0) = False := eq_false (by omega)
        have q6 : ((k : Int) ≤ (i : Int) + 1) = True := eq_true (by omega)
        have q7 : ((k : Int) = 0) = False := eq_false (by omega)
        have q8 : ((k : Int) == 0) = false := by simp; omega
        have hcell := CB _ _ _ _ H.out
        clear hc hyes hsl
        cases b with
        | true =>
          go_wp2_with (first
            | (go_at_call 13; (with_reducible refine (at_flush H.out).mono ?_); rintro e w9 ⟨rfl, L9, h', _⟩; have n_H := Aside0.mk h'; clear H h'; have H := n_H; clear n_H)
            | (go_at_call 18; (with_reducible refine (off_calls H.out.many H.out.disk H.out.hi).mono ?_); rintro e w' ⟨rfl, rfl⟩))
          exact ⟨⟨i + 1, _, _, by omega, by go_num, ⟨H.out.more (by omega) (by omega)⟩, FF0⟩, by simp [intOf]; omega⟩
        | false =>
          go_wp2_with (first
            | (go_at_call 12; (with_reducible refine (FU _).mono ?_); rintro e w9 ⟨rfl, hb⟩; have h' := H.out.below hb; clear hb; have n_H := Aside0.mk h'; clear H h'; have H := n_H; clear n_H)
            | (go_at_call 11; (with_reducible refine (at_write H.out (m : Int) (F cb) (by omega)).mono ?_); rintro e w10 ⟨rfl, L9, h', _⟩; have n_H := Aside0.mk h'; clear H h'; have H := n_H; clear n_H)
            | (go_at_call 18; (with_reducible refine (off_calls H.out.many H.out.disk H.out.hi).mono ?_); rintro e w' ⟨rfl, rfl⟩))
          exact ⟨⟨i + 1, _, _, by omega, by go_num, ⟨H.out.more (by omega) (by omega)⟩, FW0⟩, by simp [intOf]; omega⟩
    · have q1 : ((i : Int) < (bs.length : Int)) = False := eq_false (by omega)
      obtain ⟨fa, hfa⟩ : ∃ z, z = F 97 := ⟨_, rfl⟩
      have sa : fa.size = 512 := by rw [hfa]; exact F_size 97
      have FA : ∀ W : World, Calls Try.prog 12 #[.int .u8 97] W fun e w' => e = .returned (.string fa) ∧ Below W.heap.size W w' := fun W => by rw [hfa]; exact full_calls 97 W
      clear hfa
      obtain ⟨a0, a1⟩ := after_crash HF.out.offo H.out.ok (by decide) fa sa
      have HCR := fun (W : World) (hW : At w1.heap.size L 4 0 g s 4 (3 * i) w1 W) => crash_nil hW
      go_wp2_with (first
        | (go_at_call 15; (with_reducible refine (HCR _ H.out).mono ?_); rintro e w12 ⟨rfl, L8, h', _⟩; have n_H := Aside0.mk h'; clear H h'; have H := n_H; clear n_H)
        | (go_at_call 16; (with_reducible refine (at_on H.out).mono ?_); rintro e w13 ⟨rfl, L9, h', _⟩; have n_H := Aside0.mk h'; clear H h'; have H := n_H; clear n_H)
        | (go_at_call 12; (with_reducible refine (FA _).mono ?_); rintro e w14 ⟨rfl, hb⟩; have h' := H.out.below hb; clear hb; have n_H := Aside0.mk h'; clear H h'; have H := n_H; clear n_H)
        | (go_at_call 11; (with_reducible refine (at_write H.out 0 fa (by omega)).mono ?_); rintro e w15 ⟨rfl, L10, h', _⟩; have n_H := Aside0.mk h'; clear H h'; have H := n_H; clear n_H)
        | (go_at_call 13; (with_reducible refine (at_flush H.out).mono ?_); rintro e w16 ⟨rfl, L11, h', _⟩; have n_H := Aside0.mk h'; clear H h'; have H := n_H; clear n_H))
      go_ret
      exact ⟨rfl, below_then D0.out D0.out.size H.out.bel⟩
end Go.Proofs.Ytebhmbdblifddaa.Dk
