/- Chapter 6: the two disks side by side, in one state; same. -/
import Derived.Test.YtebhmbdblifddaaDkS
import Derived.Test.YtebhmbdblifddaaDkO
namespace Go.Proofs.Ytebhmbdblifddaa.Dk
open Go.RowKit Go.Maps Go.Proofs.Ytebhmbdblifddaa.X Go.Proofs.YtebhmbdblifddaaW.PrintWords Go.Proofs.YtebhmbdblifddaaW.PrintLast Go.Proofs.YtebhmbdblifddaaW.PrintMore
set_option linter.unusedVariables false
set_option linter.unusedSimpArgs false

/-- What is seen is what is safe with the pending writes done. -/
structure Sn (s : DS) : Prop where
  seen : s.seen = done s.safe s.pend
  fall : 0 ≤ s.fall
theorem sn_fall {s : DS} (h : Sn s) : Sn (fallS s) := by
  obtain ⟨a, b, c⟩ := fall_rows s
  refine ⟨by rw [a, b, c]; exact h.seen, ?_⟩
  have := h.fall
  unfold fallS
  split
  · split
    · show (0 : Int) ≤ 0; omega
    · show 0 ≤ s.fall - 1; omega
  · exact this
theorem sn_write {s : DS} (h : Sn s) (n : Int) (x : ByteArray) : Sn (writeS s n x).1 := by
  unfold writeS
  split
  · exact h
  · split
    · exact h
    · split
      · exact sn_fall h
      · refine ⟨?_, (sn_fall h).fall⟩
        show s.seen.set n.toNat x = done (fallS s).safe (s.pend ++ [(n, x)])
        rw [(fall_rows s).2.1, done_snoc, ← h.seen]
theorem sn_flush {s : DS} (h : Sn s) : Sn (flushS s).1 := by
  unfold flushS
  split
  · exact h
  · split
    · exact sn_fall h
    · exact ⟨(by show (fallS s).seen = done s.safe s.pend; rw [(fall_rows s).1]; exact h.seen), (sn_fall h).fall⟩
theorem sn_crash {s : DS} (h : Sn s) (ks : List Int) : Sn (crashS s ks) := by
  unfold crashS
  split
  · exact h
  · exact ⟨rfl, (by show (0 : Int) ≤ 0; omega)⟩
theorem sn_on {s : DS} (h : Sn s) : Sn (onS s) := by
  unfold onS
  split
  · exact ⟨(sn_crash h []).seen, (sn_crash h []).fall⟩
  · exact ⟨h.seen, h.fall⟩
theorem sn_fallN {s : DS} (h : Sn s) (k : Int) : Sn { s with fall := max 0 k } := ⟨h.seen, (by show 0 ≤ max 0 k; omega)⟩
theorem sn_fresh (n : Nat) : Sn (freshS n) := ⟨rfl, (by show (0 : Int) ≤ 0; omega)⟩
theorem diskr_else {L L' : Nat → Sl} {i j r : Nat} {s : DS} (h : Else L L' i) (hd : DiskR L j r s) (hij : j + 3 ≤ i ∨ i + 4 ≤ j) : DiskR L' j r s := by
  obtain ⟨k0, k1, k2⟩ := hd
  refine ⟨?_, ?_, ?_⟩
  · rw [h j (by omega), h (j + 1) (by omega), h (j + 2) (by omega)]; exact k0
  · rw [h (j + 1) (by omega)]; exact k1
  · rw [h (j + 2) (by omega)]; exact k2
theorem disk_else3 {L L' : Nat → Sl} {i j g : Nat} {s : DS} (h : Else3 L L' j) (hd : Disk L i g s) (hij : j + 3 ≤ i ∨ i + 4 ≤ j) : Disk L' i g s := by
  obtain ⟨k0, k1, k2, k3⟩ := hd
  refine ⟨?_, ?_, ?_, ?_⟩
  · rw [h i (by omega), h (i + 1) (by omega), h (i + 2) (by omega), h (i + 3) (by omega)]; exact k0
  · rw [h (i + 1) (by omega)]; exact k1
  · rw [h (i + 2) (by omega)]; exact k2
  · rw [h (i + 3) (by omega)]; exact k3
/-- Rows that stay keep both disks. -/
theorem disk_rows {L L' : Nat → Sl} {N i g : Nat} {s : DS} (h : ∀ j, j < N → L' j = L j) (hd : Disk L i g s) (hi : i + 4 ≤ N) : Disk L' i g s := by
  obtain ⟨k0, k1, k2, k3⟩ := hd
  refine ⟨?_, ?_, ?_, ?_⟩
  · rw [h i (by omega), h (i + 1) (by omega), h (i + 2) (by omega), h (i + 3) (by omega)]; exact k0
  · rw [h (i + 1) (by omega)]; exact k1
  · rw [h (i + 2) (by omega)]; exact k2
  · rw [h (i + 3) (by omega)]; exact k3
theorem diskr_rows {L L' : Nat → Sl} {N j r : Nat} {s : DS} (h : ∀ k, k < N → L' k = L k) (hd : DiskR L j r s) (hj : j + 3 ≤ N) : DiskR L' j r s := by
  obtain ⟨k0, k1, k2⟩ := hd
  refine ⟨?_, ?_, ?_⟩
  · rw [h j (by omega), h (j + 1) (by omega), h (j + 2) (by omega)]; exact k0
  · rw [h (j + 1) (by omega)]; exact k1
  · rw [h (j + 2) (by omega)]; exact k2
/-- Other rows stay. -/
def Stay (L L' : Nat → Sl) (N i j : Nat) : Prop := ∀ k, k < N → (k < i ∨ i + 4 ≤ k) → (k < j ∨ j + 3 ≤ k) → L' k = L k
/-- The program's disk stands (At), the document's beside it, in the same state. -/
structure Two (base : Nat) (L : Nat → Sl) (N i g j r : Nat) (s : DS) (n m : Nat) (w0 w : World) : Prop where
  at_ : At base L N i g s n m w0 w
  dr : DiskR L j r s
  hj : j + 3 ≤ N
  ap : j + 3 ≤ i ∨ i + 4 ≤ j
  sn : Sn s
/-- Behind the program's step: the document's disk still stands where it stood. -/
structure Half (base : Nat) (L : Nat → Sl) (N i g j r : Nat) (s' s : DS) (n m : Nat) (w0 w : World) : Prop where
  at_ : At base L N i g s' n m w0 w
  dr : DiskR L j r s
  hj : j + 3 ≤ N
  ap : j + 3 ≤ i ∨ i + 4 ≤ j
  sn : Sn s
  ok : OkS s n m
section
variable {base : Nat} {L : Nat → Sl} {N i g j r : Nat} {s s' : DS} {n m : Nat} {w0 w w' : World}
theorem Two.below (h : Two base L N i g j r s n m w0 w) (hb : Below w.heap.size w w') : Two base L N i g j r s n m w0 w' := ⟨h.at_.below hb, h.dr, h.hj, h.ap, h.sn⟩
theorem Half.below (h : Half base L N i g j r s' s n m w0 w) (hb : Below w.heap.size w w') : Half base L N i g j r s' s n m w0 w' := ⟨h.at_.below hb, h.dr, h.hj, h.ap, h.sn, h.ok⟩
theorem Two.half {L' : Nat → Sl} {m' : Nat} (h : Two base L N i g j r s n m w0 w) (a : At base L' N i g s' n m' w0 w') (e : Else L L' i) (hm : m ≤ m') : Half base L' N i g j r s' s n m' w0 w' := ⟨a, diskr_else e h.dr h.ap, h.hj, h.ap, h.sn, ok_more h.at_.ok hm⟩
theorem Half.two {L' : Nat → Sl} (h : Half base L N i g j r s' s n m w0 w) (hs : Sn s') (hm : Many base L' N w') (hd : DiskR L' j r s') (e : Else3 L L' j) (hb : Below base w w') : Two base L' N i g j r s' n m w0 w' :=
  ⟨⟨hm, disk_else3 e h.at_.disk h.ap, h.at_.hi, h.at_.ok, h.at_.bel.trans hb, h.at_.hb, h.at_.hn, h.at_.hm⟩, hd, h.hj, h.ap, hs⟩
theorem Half.pn (h : Half base L N i g j r s' s n m w0 w) : s.pend.length ≤ 549755813888 ∧ (∀ p ∈ s.pend, 0 ≤ p.1 ∧ p.1 < s.safe.length) := ⟨by have := h.ok.pend; have := h.at_.hm; omega, fun p hp => by rw [h.ok.safe]; exact h.ok.inn p hp⟩
theorem two_write (k : Int) (x : ByteArray) (h : Half base L N i g j r (writeS s k x).1 s n m w0 w) :
    Calls Try.prog 35 #[.pointer (some ⟨r, 0, none⟩), .int .i64 k, .string x] w fun e w' => e = .returned (.int .i64 (writeS s k x).2) ∧ ∃ L', Two base L' N i g j r (writeS s k x).1 n m w0 w' ∧ Else3 L L' j := by
  refine (rwrite_calls k x h.at_.many h.dr h.hj ⟨h.sn.fall, h.ok.fall⟩ h.at_.base h.pn.1 (by rw [h.ok.seen, h.ok.safe])).mono ?_
  rintro e w' ⟨rfl, L', m1, d1, e1, b1⟩
  exact ⟨rfl, L', h.two (sn_write h.sn k x) m1 d1 e1 b1, e1⟩
theorem two_flush (h : Half base L N i g j r (flushS s).1 s n m w0 w) :
    Calls Try.prog 36 #[.pointer (some ⟨r, 0, none⟩)] w fun e w' => e = .returned (.int .i64 (flushS s).2) ∧ ∃ L', Two base L' N i g j r (flushS s).1 n m w0 w' ∧ Else3 L L' j := by
  refine (rflush_calls h.at_.many h.dr h.hj ⟨h.sn.fall, h.ok.fall⟩ h.at_.base h.pn.1 h.pn.2).mono ?_
  rintro e w' ⟨rfl, L', m1, d1, e1, b1⟩
  exact ⟨rfl, L', h.two (sn_flush h.sn) m1 d1 e1 b1, e1⟩
theorem two_fall (k : Int) (h : Half base L N i g j r { s with fall := max 0 k } s n m w0 w) :
    Calls Try.prog 37 #[.pointer (some ⟨r, 0, none⟩), .int .i64 k] w fun e w' => e = .returned (.tuple #[]) ∧ ∃ L', Two base L' N i g j r { s with fall := max 0 k } n m w0 w' ∧ Else3 L L' j := by
  refine (rfall_calls k h.at_.many h.dr h.hj).mono ?_
  rintro e w' ⟨rfl, L', m1, d1, e1, b1⟩
  exact ⟨rfl, L', h.two (sn_fallN h.sn k) m1 d1 e1 b1, e1⟩
theorem two_crash (A : Option Addr) (c : Nat) (ks : List Int) (hk : ∀ W, Below base w W → Kd.C (Kd.int .i64) W A ks.length ks) (hkl : ks.length ≤ 549755813888) (h : Half base L N i g j r (crashS s ks) s n m w0 w) :
    Calls Try.prog 38 #[.pointer (some ⟨r, 0, none⟩), .slice A ks.length c] w fun e w' => e = .returned (.tuple #[]) ∧ ∃ L', Two base L' N i g j r (crashS s ks) n m w0 w' ∧ Else3 L L' j := by
  refine (rcrash_calls A c ks hk hkl h.at_.many h.dr h.hj h.at_.base h.pn.1 h.pn.2).mono ?_
  rintro e w' ⟨rfl, L', m1, d1, e1, b1⟩
  exact ⟨rfl, L', h.two (sn_crash h.sn ks) m1 d1 e1 b1, e1⟩
theorem two_on (h : Half base L N i g j r (onS s) s n m w0 w) :
    Calls Try.prog 39 #[.pointer (some ⟨r, 0, none⟩)] w fun e w' => e = .returned (.tuple #[]) ∧ ∃ L', Two base L' N i g j r (onS s) n m w0 w' ∧ Else3 L L' j := by
  refine (ron_calls h.at_.many h.dr h.hj h.at_.base h.pn.1 h.pn.2).mono ?_
  rintro e w' ⟨rfl, L', m1, d1, e1, b1⟩
  exact ⟨rfl, L', h.two (sn_on h.sn) m1 d1 e1 b1, e1⟩
theorem two_read (k : Int) (h : Two base L N i g j r s n m w0 w) :
    Calls Try.prog 33 #[.pointer (some ⟨r, 0, none⟩), .int .i64 k] w fun e w' => e = .returned (.tuple #[.string (readS s k).1, .int .i64 (readS s k).2]) ∧ w' = w := by
  have := rread_calls k h.at_.many h.dr h.hj (by have := h.at_.ok.pend; have := h.at_.hm; omega)
  rw [read_same h.sn.seen (fun p hp => (h.at_.ok.inn p hp).1)] at this
  exact this
end
set_option maxHeartbeats 8000000 in
set_option maxRecDepth 100000 in
theorem same_calls {base : Nat} {L : Nat → Sl} {N i g j r : Nat} {s : DS} {n m : Nat} {w0 w : World} (h : Two base L N i g j r s n m w0 w) :
    Calls Try.prog 25 #[.pointer (some ⟨g, 0, none⟩), .pointer (some ⟨r, 0, none⟩)] w fun e w' => e = .returned (.bool true) ∧ w' = w := by
  have C18 := at_off h.at_ s.off rfl
  have C20 := at_pending h.at_ s.pend.length rfl
  have C27 := sectors_calls h.at_.many h.at_.disk h.at_.hi
  rw [h.at_.ok.seen] at C27
  have C40 := roff_calls h.at_.many h.dr h.hj
  have C41 := rpending_calls h.at_.many h.dr h.hj
  have C42 := rsectors_calls h.at_.many h.dr h.hj
  rw [h.at_.ok.safe] at C42
  have C17 := fun k => read_off h.at_ k
  have C33 := fun k => two_read k h
  have hn := h.at_.hn
  generalize s.off = b at C18 C40
  generalize s.pend.length = p at C20 C41
  clear h
  go_enter Try.func25, Try.ntmps25
  go_wp2_with (first
    | (go_at_call 18; (with_reducible refine C18.mono ?_); rintro e w' ⟨rfl, hw⟩; obtain rfl := hw.symm)
    | (go_at_call 40; (with_reducible refine C40.mono ?_); rintro e w' ⟨rfl, hw⟩; obtain rfl := hw.symm)
    | (go_at_call 20; (with_reducible refine C20.mono ?_); rintro e w' ⟨rfl, hw⟩; obtain rfl := hw.symm)
    | (go_at_call 41; (with_reducible refine C41.mono ?_); rintro e w' ⟨rfl, hw⟩; obtain rfl := hw.symm)
    | (go_at_call 27; (with_reducible refine C27.mono ?_); rintro e w' ⟨rfl, hw⟩; obtain rfl := hw.symm)
    | (go_at_call 42; (with_reducible refine C42.mono ?_); rintro e w' ⟨rfl, hw⟩; obtain rfl := hw.symm))
  go_loopw [5] (fun v5 W => ∃ z : Int, -1 ≤ z ∧ z ≤ (n : Int) + 1 ∧ v5 = .int .i64 z ∧ W = w) (fun v5 _ => ((n : Int) + 1 - intOf v5).toNat)
  case atStart => exact ⟨-1, by omega, by omega, rfl, rfl⟩
  case round =>
    obtain ⟨z, hz0, hz1, rfl, rfl⟩ := hrel
    obtain ⟨x, hx⟩ : ∃ x, readS s z = x := ⟨_, rfl⟩
    have D17 := C17 z
    have D33 := C33 z
    rw [hx] at D17 D33
    obtain ⟨x1, x2⟩ := x
    clear hx
    by_cases hz : z ≤ n
    · have q1 : (z ≤ (n : Int)) = True := eq_true hz
      go_wp2_with (first
        | (go_at_call 42; (with_reducible refine C42.mono ?_); rintro e w' ⟨rfl, hw⟩; obtain rfl := hw.symm)
        | (go_at_call 17; (with_reducible refine D17.mono ?_); rintro e w' ⟨rfl, hw⟩; obtain rfl := hw.symm)
        | (go_at_call 33; (with_reducible refine D33.mono ?_); rintro e w' ⟨rfl, hw⟩; obtain rfl := hw.symm))
      exact ⟨⟨z + 1, by omega, by omega, by go_num, by first | trivial | rfl⟩, by first | (simp [intOf]; done) | (simp [intOf]; omega)⟩
    · have q1 : (z ≤ (n : Int)) = False := eq_false hz
      go_wp2_with (first
        | (go_at_call 42; (with_reducible refine C42.mono ?_); rintro e w' ⟨rfl, hw⟩; obtain rfl := hw.symm))
      go_ret
      exact ⟨rfl, by first | trivial | rfl⟩
end Go.Proofs.Ytebhmbdblifddaa.Dk
