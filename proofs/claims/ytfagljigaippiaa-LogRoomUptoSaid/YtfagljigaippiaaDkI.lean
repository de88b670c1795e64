/- Chapter 7 (the disk): sound states; full; made. -/
import Derived.Test.YtfagljigaippiaaDkH
namespace Go.Proofs.Ytfagljigaippiaa.Dk
open Go.RowKit Go.Maps Go.Proofs.Ytfagljigaippiaa.X Go.Proofs.YtfagljigaippiaaW.PrintWords Go.Proofs.YtfagljigaippiaaW.PrintLast Go.Proofs.YtfagljigaippiaaW.PrintMore
set_option linter.unusedVariables false
set_option linter.unusedSimpArgs false

/-- 512 times a letter. -/
def F (c : UInt8) : ByteArray := ⟨(List.replicate 512 c).toArray⟩
theorem F_size (c : UInt8) : (F c).size = 512 := by
  show (List.replicate 512 c).toArray.size = 512
  rw [List.size_toArray, List.length_replicate]
theorem repeat_one (c : UInt8) : ∀ n, Lib.repeatL [c] n = List.replicate n c
  | 0 => rfl
  | n + 1 => by
    rw [List.replicate_succ, ← repeat_one c n]; rfl
theorem Z_F : Z = F 0 := by unfold Z F; rw [repeat_one]
theorem nums_rep (c : UInt8) (n : Nat) : strOfNums (List.replicate n (c.toNat : Int)) = ⟨(List.replicate n c).toArray⟩ := by
  unfold strOfNums
  rw [List.map_replicate]
  have e : UInt8.ofNat ((c.toNat : Int).toNat) = c := by simp
  rw [e]
/-- A sound state: n sectors, at most m pending writes. -/
structure OkS (s : DS) (n m : Nat) : Prop where
  seen : s.seen.length = n
  safe : s.safe.length = n
  pend : s.pend.length ≤ m
  inn : ∀ p ∈ s.pend, 0 ≤ p.1 ∧ p.1 < n
  fall : s.fall ≤ 9223372036854775807
theorem ok_fall {s : DS} {n m : Nat} (h : OkS s n m) : OkS (fallS s) n m := by
  obtain ⟨a, b, c⟩ := fall_rows s
  refine ⟨by rw [a]; exact h.seen, by rw [b]; exact h.safe, by rw [c]; exact h.pend, by rw [c]; exact h.inn, ?_⟩
  have := h.fall
  unfold fallS
  split
  · split
    · show (0 : Int) ≤ _; omega
    · show s.fall - 1 ≤ _; omega
  · exact this
theorem ok_more {s : DS} {n m m' : Nat} (h : OkS s n m) (hm : m ≤ m') : OkS s n m' := ⟨h.seen, h.safe, Nat.le_trans h.pend hm, h.inn, h.fall⟩
theorem ok_write {s : DS} {n m : Nat} (h : OkS s n m) (k : Int) (x : ByteArray) : OkS (writeS s k x).1 n (m + 1) := by
  unfold writeS
  have hf := ok_fall h
  split
  · exact ok_more h (by omega)
  · split
    · exact ok_more h (by omega)
    · rename_i h1 h2
      have h3 := Classical.not_not.1 h2
      split
      · exact ok_more hf (by omega)
      · refine ⟨by rw [List.length_set]; exact h.seen, hf.safe, by rw [List.length_append]; have := h.pend; show _ + 1 ≤ _; omega, fun p hp => ?_, hf.fall⟩
        rcases List.mem_append.1 hp with h4 | h4
        · exact h.inn p h4
        · rw [List.mem_singleton.1 h4]
          have := h.seen
          exact ⟨h3.1.1, by have := h3.1.2; show k < n; omega⟩
theorem ok_flush {s : DS} {n m : Nat} (h : OkS s n m) : OkS (flushS s).1 n m := by
  unfold flushS
  have hf := ok_fall h
  split
  · exact h
  · split
    · exact hf
    · exact ⟨hf.seen, by show (done s.safe s.pend).length = n; rw [done_len]; exact h.safe, Nat.zero_le _, fun p hp => (by cases hp), hf.fall⟩
theorem ok_crash {s : DS} {n m : Nat} (h : OkS s n m) (ks : List Int) : OkS (crashS s ks) n m := by
  unfold crashS
  split
  · exact h
  · exact ⟨by show (done _ _).length = n; rw [done_len]; exact h.safe, by show (done _ _).length = n; rw [done_len]; exact h.safe, Nat.zero_le _, fun p hp => (by cases hp), by show (0 : Int) ≤ _; omega⟩
theorem ok_on {s : DS} {n m : Nat} (h : OkS s n m) : OkS (onS s) n m := by
  unfold onS
  split
  · have := ok_crash h []
    exact ⟨this.seen, this.safe, this.pend, this.inn, this.fall⟩
  · exact ⟨h.seen, h.safe, h.pend, h.inn, h.fall⟩
theorem ok_fallN {s : DS} {n m : Nat} (h : OkS s n m) (k : Int) (hk : k ≤ 9223372036854775807) : OkS { s with fall := max 0 k } n m := ⟨h.seen, h.safe, h.pend, h.inn, by show max 0 k ≤ _; omega⟩
theorem ok_fresh (n : Nat) : OkS (freshS n) n 0 := ⟨List.length_replicate, List.length_replicate, Nat.le_refl _, fun p hp => (by cases hp), by show (0 : Int) ≤ _; omega⟩
/-- The disk stands. -/
structure At (base : Nat) (L : Nat → Sl) (N i g : Nat) (s : DS) (n m : Nat) (w0 w : World) : Prop where
  many : Many base L N w
  disk : Disk L i g s
  hi : i + 4 ≤ N
  ok : OkS s n m
  bel : Below base w0 w
  hb : base ≤ w0.heap.size
  hn : n ≤ 8192
  hm : m ≤ 549755813887
theorem At.base {base : Nat} {L : Nat → Sl} {N i g : Nat} {s : DS} {n m : Nat} {w0 w : World} (h : At base L N i g s n m w0 w) : base ≤ w.heap.size := Nat.le_trans h.hb h.bel.size
theorem At.below {base : Nat} {L : Nat → Sl} {N i g : Nat} {s : DS} {n m : Nat} {w0 w w' : World} (h : At base L N i g s n m w0 w) (hb : Below w.heap.size w w') : At base L N i g s n m w0 w' := ⟨many_below h.many hb, h.disk, h.hi, h.ok, below_then h.bel h.base hb, h.hb, h.hn, h.hm⟩
section
variable {base : Nat} {L : Nat → Sl} {N i g : Nat} {s : DS} {n m : Nat} {w0 w : World}
theorem at_write (h : At base L N i g s n m w0 w) (k : Int) (x : ByteArray) (hm : m + 1 ≤ 549755813887) :
    Calls Try.prog 23 #[.pointer (some ⟨g, 0, none⟩), .int .i64 k, .string x] w fun e w' => e = .returned (.int .i64 (writeS s k x).2) ∧ ∃ L', At base L' N i g (writeS s k x).1 n (m + 1) w0 w' ∧ Else L L' i := by
  refine (write_calls k x h.many h.disk h.hi h.ok.fall h.base (by have := h.ok.pend; omega)).mono ?_
  rintro e w' ⟨rfl, L', m1, d1, e1, b1⟩
  exact ⟨rfl, L', ⟨m1, d1, h.hi, ok_write h.ok k x, h.bel.trans b1, h.hb, h.hn, hm⟩, e1⟩
theorem at_flush (h : At base L N i g s n m w0 w) :
    Calls Try.prog 56 #[.pointer (some ⟨g, 0, none⟩)] w fun e w' => e = .returned (.int .i64 (flushS s).2) ∧ ∃ L', At base L' N i g (flushS s).1 n m w0 w' ∧ Else L L' i := by
  refine (flush_calls h.many h.disk h.hi h.ok.fall h.base (by have := h.ok.pend; have := h.hm; omega) (by rw [h.ok.safe]; exact h.ok.inn)).mono ?_
  rintro e w' ⟨rfl, L', m1, d1, e1, b1⟩
  exact ⟨rfl, L', ⟨m1, d1, h.hi, ok_flush h.ok, h.bel.trans b1, h.hb, h.hn, h.hm⟩, e1⟩
theorem at_fall (h : At base L N i g s n m w0 w) (k : Int) (hk : k ≤ 9223372036854775807) :
    Calls Try.prog 29 #[.pointer (some ⟨g, 0, none⟩), .int .i64 k] w fun e w' => e = .returned (.tuple #[]) ∧ ∃ L', At base L' N i g { s with fall := max 0 k } n m w0 w' ∧ Else L L' i := by
  refine (fall_calls k h.many h.disk h.hi).mono ?_
  rintro e w' ⟨rfl, L', m1, d1, e1, b1⟩
  exact ⟨rfl, L', ⟨m1, d1, h.hi, ok_fallN h.ok k hk, h.bel.trans b1, h.hb, h.hn, h.hm⟩, e1⟩
theorem at_crash (h : At base L N i g s n m w0 w) (A : Option Addr) (c : Nat) (ks : List Int) (hk : Kd.C (Kd.int .i64) w A ks.length ks) (hkl : ks.length ≤ 549755813888) (hkw : ∀ a ∈ ks, (Lit.int .i64 a).wf = true) :
    Calls Try.prog 20 #[.pointer (some ⟨g, 0, none⟩), .slice A ks.length c] w fun e w' => e = .returned (.tuple #[]) ∧ ∃ L', At base L' N i g (crashS s ks) n m w0 w' ∧ Else L L' i := by
  refine (crash_calls A c ks hk hkl hkw h.many h.disk h.hi h.base (by have := h.ok.pend; have := h.hm; omega) (by rw [h.ok.safe]; have := h.hn; omega) (by rw [h.ok.safe]; exact h.ok.inn)).mono ?_
  rintro e w' ⟨rfl, L', m1, d1, e1, b1⟩
  exact ⟨rfl, L', ⟨m1, d1, h.hi, ok_crash h.ok ks, h.bel.trans b1, h.hb, h.hn, h.hm⟩, e1⟩
theorem at_on (h : At base L N i g s n m w0 w) :
    Calls Try.prog 21 #[.pointer (some ⟨g, 0, none⟩)] w fun e w' => e = .returned (.tuple #[]) ∧ ∃ L', At base L' N i g (onS s) n m w0 w' ∧ Else L L' i := by
  refine (on_calls h.many h.disk h.hi h.base (by have := h.ok.pend; have := h.hm; omega) (by rw [h.ok.safe]; have := h.hn; omega) (by rw [h.ok.safe]; exact h.ok.inn)).mono ?_
  rintro e w' ⟨rfl, L', m1, d1, e1, b1⟩
  exact ⟨rfl, L', ⟨m1, d1, h.hi, ok_on h.ok, h.bel.trans b1, h.hb, h.hn, h.hm⟩, e1⟩
theorem at_copy (h : At base L N i g s n m w0 w) :
    Calls Try.prog 19 #[.pointer (some ⟨g, 0, none⟩)] w fun e w' => ∃ g' L', e = .returned (.pointer (some ⟨g', 0, none⟩)) ∧ At base L' (N + 4) i g s n m w0 w' ∧ At base L' (N + 4) N g' s n m w0 w' ∧ (∀ j, j < N → L' j = L j) := by
  refine (copy_calls h.many h.disk h.hi h.base (by rw [h.ok.seen]; have := h.hn; omega) (by rw [h.ok.safe]; have := h.hn; omega) (by have := h.ok.pend; have := h.hm; omega)).mono ?_
  rintro e w' ⟨g', L', rfl, m1, d1, e1, b1⟩
  have hi := h.hi
  obtain ⟨k0, k1, k2, k3⟩ := h.disk
  refine ⟨g', L', rfl, ⟨m1, ⟨?_, ?_, ?_, ?_⟩, by omega, h.ok, h.bel.trans b1, h.hb, h.hn, h.hm⟩, ⟨m1, d1, by omega, h.ok, h.bel.trans b1, h.hb, h.hn, h.hm⟩, e1⟩
  · rw [e1 i (by omega), e1 (i + 1) (by omega), e1 (i + 2) (by omega), e1 (i + 3) (by omega)]; exact k0
  · rw [e1 (i + 1) (by omega)]; exact k1
  · rw [e1 (i + 2) (by omega)]; exact k2
  · rw [e1 (i + 3) (by omega)]; exact k3
end
/-- Another disk stays. -/
theorem disk_else {L L' : Nat → Sl} {i j g : Nat} {s : DS} (h : Else L L' i) (hd : Disk L j g s) (hij : j + 4 ≤ i ∨ i + 4 ≤ j) : Disk L' j g s := by
  obtain ⟨k0, k1, k2, k3⟩ := hd
  refine ⟨?_, ?_, ?_, ?_⟩
  · rw [h j (by omega), h (j + 1) (by omega), h (j + 2) (by omega), h (j + 3) (by omega)]; exact k0
  · rw [h (j + 1) (by omega)]; exact k1
  · rw [h (j + 2) (by omega)]; exact k2
  · rw [h (j + 3) (by omega)]; exact k3
/-- A first disk. -/
theorem at_new {n : Nat} (w : World) (h1 : 1 ≤ n) (h2 : n ≤ 8192) : Calls Try.prog 8 #[.int .i64 (n : Int)] w fun e w' => ∃ g L', e = .returned (.tuple #[.pointer (some ⟨g, 0, none⟩), .int .i64 0]) ∧ At w.heap.size L' 4 0 g (freshS n) n 0 w w' := by
  have h : Many w.heap.size (fun _ => osl 0 0 []) 0 w := ⟨fun s hs => by omega, fun s t hs => by omega⟩
  refine (new_calls n h1 h2 h (Nat.le_refl _)).mono ?_
  rintro e w' ⟨g, L', rfl, m1, d1, e1, b1⟩
  exact ⟨g, L', rfl, ⟨m1, d1, by omega, ok_fresh n, b1, Nat.le_refl _, h2, by omega⟩⟩
end Go.Proofs.Ytfagljigaippiaa.Dk
