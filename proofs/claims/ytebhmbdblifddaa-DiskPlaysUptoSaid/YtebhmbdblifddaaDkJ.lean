/- Chapter 6: the law's head and made. -/
import Derived.Test.YtebhmbdblifddaaDkI
namespace Go.Proofs.Ytebhmbdblifddaa.Dk
open Go.RowKit Go.Maps Go.Proofs.Ytebhmbdblifddaa.X Go.Proofs.YtebhmbdblifddaaW.PrintWords Go.Proofs.YtebhmbdblifddaaW.PrintLast Go.Proofs.YtebhmbdblifddaaW.PrintMore
set_option linter.unusedVariables false
set_option linter.unusedSimpArgs false

set_option maxHeartbeats 8000000 in
set_option maxRecDepth 100000 in
theorem made_calls {n : Nat} (w : World) (h1 : 1 ≤ n) (h2 : n ≤ 8192) : Calls Try.prog 9 #[.int .i64 (n : Int)] w fun e w' => ∃ g L', e = .returned (.pointer (some ⟨g, 0, none⟩)) ∧ At w.heap.size L' 4 0 g (freshS n) n 0 w w' := by
  have HN := at_new w h1 h2
  go_enter Try.func9, Try.ntmps9
  go_wp2_with (go_at_call 21; (with_reducible refine HN.mono ?_); rintro e w1 ⟨g, L1, rfl, h1⟩; have H1 := Aside0.mk h1; clear h1)
  go_ret
  exact ⟨g, L1, rfl, H1.out⟩
theorem ints_block {W : World} {g : Nat} {cs : Array Value} (ks : List Int) (hl : ks.length ≤ 9223372036854775807) (h : W.heap[g]? = some (.cells cs 3 (0, 0))) (hc : ∀ (j : Nat) (x : Int), ks[j]? = some x → cs[j]? = some (Value.int .i64 x)) : Kd.C (Kd.int .i64) W (some ⟨g, 0, none⟩) ks.length ks := by
  refine ⟨rfl, hl, fun h0 => ⟨_, rfl, fun j x hj => ?_⟩⟩
  refine ⟨[.int .i64 x], rfl, rfl, fun i u hi => ?_⟩
  cases i with
  | succ i => simp at hi
  | zero =>
    simp only [List.getElem?_cons_zero, Option.some.injEq] at hi
    subst hi
    have ha : (⟨g, 0, none⟩ : Addr).add (j * (Kd.int .i64).sz + 0) = ⟨g, j, none⟩ := by
      show (⟨g, 0, none⟩ : Addr).add (j * 1 + 0) = _
      rw [Nat.mul_one]; unfold Addr.add; split <;> simp_all
    rw [ha, blk_cell h, hc j x hj]
theorem crash_two {base : Nat} {L : Nat → Sl} {N i g : Nat} {s : DS} {n m : Nat} {w0 w : World} (h : At base L N i g s n m w0 w) :
    Calls Try.prog 15 #[.pointer (some ⟨g, 0, none⟩), .slice (some ⟨w.heap.size, 0, none⟩) 2 2] (w.alloc (.cells #[.int .i64 0, .int .i64 9] 3)) fun e w' => e = .returned (.tuple #[]) ∧ ∃ L', At base L' N i g (crashS s [0, 9]) n m w0 w' ∧ Else L L' i :=
  at_crash (h.below (below_alloc (Below.refl _ _) _)) (some ⟨w.heap.size, 0, none⟩) 2 [0, 9] (ints_block [0, 9] (by decide) (blk_new _ _) (fun j x hj => by
    match j, hj with
    | 0, hj => simpa using hj
    | 1, hj => simpa using hj)) (by decide) (fun a ha => by
    simp only [List.mem_cons, List.not_mem_nil, or_false] at ha
    rcases ha with rfl | rfl <;> decide)
/-- The states of head. -/
def hd (seen safe : List ByteArray) (pend : List (Int × ByteArray)) (off : Bool) : DS := { seen := seen, safe := safe, pend := pend, fall := 0, off := off, opn := false }
theorem read_off {base : Nat} {L : Nat → Sl} {N i g : Nat} {s : DS} {n m : Nat} {w0 w : World} (h : At base L N i g s n m w0 w) (k : Int) :
    Calls Try.prog 17 #[.pointer (some ⟨g, 0, none⟩), .int .i64 k] w fun e w' => e = .returned (.tuple #[.string (readS s k).1, .int .i64 (readS s k).2]) ∧ w' = w := read_calls k h.many h.disk h.hi
set_option maxHeartbeats 8000000 in
set_option maxRecDepth 100000 in
theorem head_calls (w : World) : Calls Try.prog 8 #[] w fun e w' => e = .returned (.bool true) ∧ Below w.heap.size w w' := by
  obtain ⟨z, hz⟩ : ∃ z, z = Z := ⟨_, rfl⟩
  obtain ⟨fa, hfa⟩ : ∃ z, z = F 97 := ⟨_, rfl⟩
  obtain ⟨fb, hfb⟩ : ∃ z, z = F 98 := ⟨_, rfl⟩
  obtain ⟨fc, hfc⟩ : ∃ z, z = F 99 := ⟨_, rfl⟩
  have sa : fa.size = 512 := by rw [hfa]; exact F_size 97
  have sb : fb.size = 512 := by rw [hfb]; exact F_size 98
  have sc : fc.size = 512 := by rw [hfc]; exact F_size 99
  have FA : ∀ W : World, Calls Try.prog 12 #[.int .u8 97] W fun e w' => e = .returned (.string fa) ∧ Below W.heap.size W w' := fun W => by rw [hfa]; exact full_calls 97 W
  have FB : ∀ W : World, Calls Try.prog 12 #[.int .u8 98] W fun e w' => e = .returned (.string fb) ∧ Below W.heap.size W w' := fun W => by rw [hfb]; exact full_calls 98 W
  have FC : ∀ W : World, Calls Try.prog 12 #[.int .u8 99] W fun e w' => e = .returned (.string fc) ∧ Below W.heap.size W w' := fun W => by rw [hfc]; exact full_calls 99 W
  have FZ : ∀ W : World, Calls Try.prog 12 #[.int .u8 0] W fun e w' => e = .returned (.string z) ∧ Below W.heap.size W w' := fun W => by rw [hz, Z_F]; exact full_calls 0 W
  have e0 : freshS 4 = hd [z, z, z, z] [z, z, z, z] [] false := by rw [hz]; rfl
  have e1 : writeS (hd [z, z, z, z] [z, z, z, z] [] false) 1 fa = (hd [z, fa, z, z] [z, z, z, z] [(1, fa)] false, 0) := by simp [writeS, hd, fallS, sa]
  have e2 : writeS (hd [z, fa, z, z] [z, z, z, z] [(1, fa)] false) 1 ⟨#[97]⟩ = (hd [z, fa, z, z] [z, z, z, z] [(1, fa)] false, 1) := by simp [writeS, hd, fallS]; decide
  have e3 : flushS (hd [z, fa, z, z] [z, z, z, z] [(1, fa)] false) = (hd [z, fa, z, z] [z, fa, z, z] [] false, 0) := by simp [flushS, hd, fallS, done]
  have e4 : writeS (hd [z, fa, z, z] [z, fa, z, z] [] false) 1 fb = (hd [z, fb, z, z] [z, fa, z, z] [(1, fb)] false, 0) := by simp [writeS, hd, fallS, sb]
  have e5 : writeS (hd [z, fb, z, z] [z, fa, z, z] [(1, fb)] false) 2 fc = (hd [z, fb, fc, z] [z, fa, z, z] [(1, fb), (2, fc)] false, 0) := by simp [writeS, hd, fallS, sc]
  have e6 : crashS (hd [z, fb, fc, z] [z, fa, z, z] [(1, fb), (2, fc)] false) [0, 9] = hd [z, fb, z, z] [z, fb, z, z] [] true := by simp [crashS, hd, keptW, done]
  have e7 : onS (hd [z, fb, z, z] [z, fb, z, z] [] true) = hd [z, fb, z, z] [z, fb, z, z] [] false := by simp [onS, hd]
  have r1 : readS (hd [z, fb, z, z] [z, fb, z, z] [] true) 1 = (ByteArray.empty, 9) := by simp [readS, hd]
  have r2 : readS (hd [z, fb, z, z] [z, fb, z, z] [] false) 1 = (fb, 0) := by simp [readS, hd]
  have r3 : readS (hd [z, fb, z, z] [z, fb, z, z] [] false) 2 = (z, 0) := by simp [readS, hd]
  have HN4 : Calls Try.prog 21 #[.int .i64 4] w fun e w' => ∃ g L', e = .returned (.tuple #[.pointer (some ⟨g, 0, none⟩), .int .i64 0]) ∧ At w.heap.size L' 4 0 g (freshS 4) 4 0 w w' := at_new (n := 4) w (by decide) (by decide)
  have HN0 : ∀ W : World, Calls Try.prog 21 #[.int .i64 0] W fun e w' => e = .returned (.tuple #[.pointer none, .int .i64 1]) ∧ w' = W := fun W => new_none 0 (by decide)
  have l4 : (hd [z, z, z, z] [z, z, z, z] [] false).seen.length = 4 := rfl
  have p2 : (hd [z, fb, fc, z] [z, fa, z, z] [(1, fb), (2, fc)] false).pend.length = 2 := rfl
  have p0 : (hd [z, fb, z, z] [z, fb, z, z] [] false).pend.length = 0 := rfl
  have o1 : (hd [z, fb, z, z] [z, fb, z, z] [] true).off = true := rfl
  clear hz hfa hfb hfc
  go_enter Try.func8, Try.ntmps8
  go_wp2_with (first
    | (go_at_call 21; (with_reducible refine HN4.mono ?_); rintro e w1 ⟨g, L1, rfl, h'⟩; rw [e0] at h'; have H := Aside0.mk h'; clear h')
    | (go_at_call 21; (with_reducible refine (HN0 _).mono ?_); rintro e w' ⟨rfl, rfl⟩)
    | (go_at_call 27; (with_reducible refine (sectors_calls H.out.many H.out.disk H.out.hi).mono ?_); rintro e w' ⟨rfl, rfl⟩)
    | (go_at_call 20; (with_reducible refine (pending_calls H.out.many H.out.disk H.out.hi).mono ?_); rintro e w' ⟨rfl, rfl⟩)
    | (go_at_call 18; (with_reducible refine (off_calls H.out.many H.out.disk H.out.hi).mono ?_); rintro e w' ⟨rfl, rfl⟩)
    | (go_at_call 12; (with_reducible refine (FA _).mono ?_); rintro e w2 ⟨rfl, hb⟩; have h' := H.out.below hb; clear hb; have n_H := Aside0.mk h'; clear H h'; have H := n_H; clear n_H)
    | (go_at_call 12; (with_reducible refine (FB _).mono ?_); rintro e w2 ⟨rfl, hb⟩; have h' := H.out.below hb; clear hb; have n_H := Aside0.mk h'; clear H h'; have H := n_H; clear n_H)
    | (go_at_call 12; (with_reducible refine (FC _).mono ?_); rintro e w2 ⟨rfl, hb⟩; have h' := H.out.below hb; clear hb; have n_H := Aside0.mk h'; clear H h'; have H := n_H; clear n_H)
    | (go_at_call 12; (with_reducible refine (FZ _).mono ?_); rintro e w2 ⟨rfl, hb⟩; have h' := H.out.below hb; clear hb; have n_H := Aside0.mk h'; clear H h'; have H := n_H; clear n_H)
    | (go_at_call 11; (with_reducible refine (at_write H.out 1 fa (by omega)).mono ?_); rintro e w3 ⟨rfl, L3, h', _⟩; rw [e1] at h'; have n_H := Aside0.mk h'; clear H h'; have H := n_H; clear n_H)
    | (go_at_call 11; (with_reducible refine (at_write H.out 1 ⟨#[97]⟩ (by omega)).mono ?_); rintro e w3 ⟨rfl, L3, h', _⟩; rw [e2] at h'; have n_H := Aside0.mk h'; clear H h'; have H := n_H; clear n_H)
    | (go_at_call 11; (with_reducible refine (at_write H.out 1 fb (by omega)).mono ?_); rintro e w3 ⟨rfl, L3, h', _⟩; rw [e4] at h'; have n_H := Aside0.mk h'; clear H h'; have H := n_H; clear n_H)
    | (go_at_call 11; (with_reducible refine (at_write H.out 2 fc (by omega)).mono ?_); rintro e w3 ⟨rfl, L3, h', _⟩; rw [e5] at h'; have n_H := Aside0.mk h'; clear H h'; have H := n_H; clear n_H)
    | (go_at_call 13; (with_reducible refine (at_flush H.out).mono ?_); rintro e w4 ⟨rfl, L4, h', _⟩; rw [e3] at h'; have n_H := Aside0.mk h'; clear H h'; have H := n_H; clear n_H)
    | (go_at_call 15; (refine (crash_two H.out).mono ?_); rintro e w5 ⟨rfl, L5, h', _⟩; rw [e6] at h'; have n_H := Aside0.mk h'; clear H h'; have H := n_H; clear n_H)
    | (go_at_call 16; (with_reducible refine (at_on H.out).mono ?_); rintro e w6 ⟨rfl, L6, h', _⟩; rw [e7] at h'; have n_H := Aside0.mk h'; clear H h'; have H := n_H; clear n_H)
    | (go_at_call 17; (with_reducible refine (read_off H.out 1).mono ?_); rintro e w' ⟨rfl, rfl⟩)
    | (go_at_call 17; (with_reducible refine (read_off H.out 2).mono ?_); rintro e w' ⟨rfl, rfl⟩))
  go_ret
  exact ⟨rfl, H.out.bel⟩
end Go.Proofs.Ytebhmbdblifddaa.Dk
