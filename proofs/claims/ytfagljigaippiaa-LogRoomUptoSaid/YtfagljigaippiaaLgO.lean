/- Chapter 7: recover where nothing is under way; Open. -/
import Derived.Test.YtfagljigaippiaaLgM
namespace Go.Proofs.Ytfagljigaippiaa.Dk
open Go.RowKit Go.Maps Go.Proofs.Ytfagljigaippiaa.X Go.Proofs.YtfagljigaippiaaW.PrintWords Go.Proofs.YtfagljigaippiaaW.PrintLast Go.Proofs.YtfagljigaippiaaW.PrintMore
set_option linter.unusedVariables false
set_option linter.unusedSimpArgs false

theorem read_in {s : DS} (ho : s.off = false) (k : Nat) (hk : k < s.seen.length) : readS s (k : Int) = (s.seen.getD k ByteArray.empty, 0) := by
  unfold readS
  rw [if_neg (by rw [ho]; decide), if_pos ⟨by omega, by omega⟩, Int.toNat_natCast]
theorem at_read {base : Nat} {L : Nat → Sl} {N i g : Nat} {s : DS} {n m : Nat} {w0 w : World} (h : At base L N i g s n m w0 w) (k : Int) (x : ByteArray) (e : readS s k = (x, 0)) :
    Calls Try.prog 25 #[.pointer (some ⟨g, 0, none⟩), .int .i64 k] w fun e w' => e = .returned (.tuple #[.string x, .int .i64 0]) ∧ w' = w := by
  have := read_calls k h.many h.disk h.hi
  rw [e] at this
  exact this
/-- The second sector says nothing. -/
structure Quiet (s : DS) (n : Nat) : Prop where
  off : s.off = false
  two : 1 < n
  size : (s.seen.getD 1 ByteArray.empty).size = 512
  head : (s.seen.getD 1 ByteArray.empty).data[0]? ≠ some 99
set_option maxHeartbeats 8000000 in
set_option maxRecDepth 100000 in
theorem recover_none {base : Nat} {L : Nat → Sl} {N i g j gl : Nat} {s : DS} {n m sz : Nat} {dead : Bool} {w0 w : World} (h : Lg base L N i g j gl s n m sz dead w0 w) (hq : Quiet s n) :
    Calls Try.prog 38 #[.pointer (some ⟨gl, 0, none⟩)] w fun r w' => r = .returned (.int .i64 0) ∧ Below w.heap.size w w' := by
  obtain ⟨c0, _, _, _⟩ := h.cells
  have CR := at_read h.at_ 1 _ (read_in hq.off 1 (by rw [h.at_.ok.seen]; exact hq.two))
  obtain ⟨v, CN⟩ := note_none cm (s.seen.getD 1 ByteArray.empty) rfl rfl hq.size hq.head
  generalize s.seen.getD 1 ByteArray.empty = b at CR CN
  have EM : Aside0 (cm = ⟨#[99, 111, 102, 102, 101, 114, 32, 99, 111, 109, 109, 105, 116, 32, 32, 32]⟩) := ⟨rfl⟩
  rw [EM.out] at CN
  clear h hq
  go_enter Try.func38, Try.ntmps38
  go_wp2_with (first
    | (go_at_call 25; (with_reducible refine CR.mono ?_); rintro e w' ⟨rfl, hw⟩; obtain rfl := hw.symm)
    | (go_at_call 37; (with_reducible refine (CN _).mono ?_); rintro e w1 ⟨rfl, hb⟩; have HB := Aside0.mk hb; clear hb))
  go_ret
  exact ⟨rfl, HB.out⟩
set_option maxHeartbeats 8000000 in
set_option maxRecDepth 100000 in
theorem open_off {base : Nat} {L : Nat → Sl} {N i g : Nat} {s : DS} {n m : Nat} {w0 w : World} (h : At base L N i g s n m w0 w) (ho : s.off = true) (k : Int) :
    Calls Try.prog 9 #[.pointer (some ⟨g, 0, none⟩), .int .i64 k] w fun r w' => r = .returned (.tuple #[.pointer none, .int .i64 9]) ∧ w' = w := by
  have CO := off_calls h.many h.disk h.hi
  rw [ho] at CO
  clear h
  go_enter Try.func9, Try.ntmps9
  go_wp2_with (go_at_call 32; (with_reducible refine CO.mono ?_); rintro e w' ⟨rfl, hw⟩; obtain rfl := hw.symm)
  go_ret2
  exact ⟨rfl, rfl⟩
set_option maxHeartbeats 8000000 in
set_option maxRecDepth 100000 in
theorem open_arg {base : Nat} {L : Nat → Sl} {N i g : Nat} {s : DS} {n m : Nat} {w0 w : World} (h : At base L N i g s n m w0 w) (ho : s.off = false) (k : Int) (hk : k < 4 ∨ (n : Int) ≤ k) :
    Calls Try.prog 9 #[.pointer (some ⟨g, 0, none⟩), .int .i64 k] w fun r w' => r = .returned (.tuple #[.pointer none, .int .i64 1]) ∧ w' = w := by
  have CO := off_calls h.many h.disk h.hi
  rw [ho] at CO
  have CS := sectors_calls h.many h.disk h.hi
  rw [h.ok.seen] at CS
  clear h
  go_enter Try.func9, Try.ntmps9
  by_cases h4 : k < 4
  · have p1 : (k < 4) = True := eq_true h4
    clear hk
    go_wp2_with (go_at_call 32; (with_reducible refine CO.mono ?_); rintro e w' ⟨rfl, hw⟩; obtain rfl := hw.symm)
    go_ret2
    exact ⟨rfl, rfl⟩
  · have p1 : (k < 4) = False := eq_false h4
    have p2 : ((n : Int) ≤ k) = True := eq_true (hk.resolve_left h4)
    clear hk
    go_wp2_with (first
      | (go_at_call 32; (with_reducible refine CO.mono ?_); rintro e w' ⟨rfl, hw⟩; obtain rfl := hw.symm)
      | (go_at_call 33; (with_reducible refine CS.mono ?_); rintro e w' ⟨rfl, hw⟩; obtain rfl := hw.symm))
    go_ret2
    exact ⟨rfl, rfl⟩
/-- A log's object is made. -/
theorem lg_new {base : Nat} {L : Nat → Sl} {N i g : Nat} {s : DS} {n m : Nat} {w0 w : World} (h : At base L N i g s n m w0 w) (sz : Nat) : Lg base (upd L N (osl w.heap.size 76 [.pointer (some ⟨g, 0, none⟩), .int .i64 sz, .bool false])) (N + 1) i g N w.heap.size s n m sz false w0 (w.alloc (.cells #[.pointer (some ⟨g, 0, none⟩), .int .i64 sz, .bool false] 76)) := by
  have hi := h.hi
  obtain ⟨k0, k1, k2, k3⟩ := h.disk
  have hal := below_alloc (Below.refl w.heap.size w) (.cells #[.pointer (some ⟨g, 0, none⟩), .int .i64 sz, .bool false] 76)
  refine ⟨⟨many_add h.many _ hal ⟨rfl, .inr ⟨w.heap.size, 3, _, rfl, h.base, blk_new _ _, Nat.le_refl _, by decide, rfl, rfl⟩⟩ (fun k hk => by
    have : w.heap.size = k := by simpa [osl, Value.ownBlock] using hk
    omega), ⟨?_, ?_, ?_, ?_⟩, by omega, h.ok, below_then h.bel h.base hal, h.hb, h.hn, h.hm⟩, upd_at _ _ _, by omega, by omega⟩
  · rw [upd_ne (by omega), upd_ne (by omega), upd_ne (by omega), upd_ne (by omega)]; exact k0
  · rw [upd_ne (by omega)]; exact k1
  · rw [upd_ne (by omega)]; exact k2
  · rw [upd_ne (by omega)]; exact k3
theorem elj_new {L L' : Nat → Sl} {N i : Nat} {x : Sl} (e : Elj (upd L N x) L' i N) : ∀ k, k < N → (k < i ∨ i + 4 ≤ k) → L' k = L k := fun k hk h1 => by rw [e k h1 (by omega), upd_ne (by omega)]
set_option maxHeartbeats 8000000 in
set_option maxRecDepth 100000 in
theorem open_known {base : Nat} {L : Nat → Sl} {N i g : Nat} {s : DS} {n m : Nat} {w0 w : World} (h : At base L N i g s n m w0 w) (hq : Quiet s n) (sz : Nat) (h4 : 4 ≤ sz) (hn : sz < n) (h256 : sz < 256) (h0 : s.seen.getD 0 ByteArray.empty = noteS sm sz) :
    Calls Try.prog 9 #[.pointer (some ⟨g, 0, none⟩), .int .i64 sz] w fun r w' => ∃ gl L', r = .returned (.tuple #[.pointer (some ⟨gl, 0, none⟩), .int .i64 0]) ∧ Lg base L' (N + 1) i g N gl s n m sz false w0 w' ∧ (∀ k, k < N → (k < i ∨ i + 4 ≤ k) → L' k = L k) := by
  have CO := off_calls h.many h.disk h.hi
  rw [hq.off] at CO
  have CS := sectors_calls h.many h.disk h.hi
  rw [h.ok.seen] at CS
  have HQ := Aside0.mk hq
  have H0 := Aside0.mk h
  have q1 : ((sz : Int) < 4) = False := eq_false (by omega)
  have q1' : (sz < 4) = False := eq_false (by omega)
  have q2 : ((n : Int) ≤ (sz : Int)) = False := eq_false (by omega)
  have q2' : (n ≤ sz) = False := eq_false (by omega)
  have HR := read_in hq.off 0 (by rw [h.ok.seen]; have := hq.two; omega)
  rw [h0] at HR
  have CF := fun (W : World) => filled_calls ⟨#[]⟩ (by decide) W
  rw [show pad ⟨#[]⟩ = Z from pad_empty] at CF
  have CN := fun (W : World) => note_hit sm rfl sz h256 W
  have hne : ((noteS sm sz).toList == Z.toList) = false := by
    rw [bsame]
    apply decide_eq_false
    intro e
    have h1 := note_head sm sz 99 rfl
    rw [e] at h1
    rw [Z_F] at h1
    exact absurd h1 (by decide)
  have CN' : ∀ W : World, Calls Try.prog 37 #[.string ⟨#[99, 111, 102, 102, 101, 114, 32, 108, 111, 103, 32, 115, 105, 122, 101, 32]⟩, .string (noteS sm sz)] W fun e w' => e = .returned (.tuple #[.int .i64 sz, .bool true]) ∧ Below W.heap.size W w' := CN
  generalize noteS sm (sz : Int) = b at HR CN' hne
  generalize Z = z at CF hne
  have HRA := Aside0.mk HR
  clear h hq h0 HR CN
  go_enter Try.func9, Try.ntmps9
  go_upto_region 6 with (first
    | (go_at_call 32; (with_reducible refine CO.mono ?_); rintro e w' ⟨rfl, hw⟩; obtain rfl := hw.symm)
    | (go_at_call 33; (with_reducible refine CS.mono ?_); rintro e w' ⟨rfl, hw⟩; obtain rfl := hw.symm))
  clear CO CS
  have H1 := Aside0.mk (lg_new H0.out sz)
  obtain ⟨gl, hgl⟩ : ∃ gl, gl = w.heap.size := ⟨_, rfl⟩
  have PG : (Value.pointer (some ⟨w.heap.size, 0, none⟩)) = .pointer (some ⟨gl, 0, none⟩) := by rw [hgl]
  rw [PG]
  rw [← hgl] at H1
  have EL : Aside0 (∀ k, k < N → (k < i ∨ i + 4 ≤ k) → upd L N (osl gl 76 [.pointer (some ⟨g, 0, none⟩), .int .i64 sz, .bool false]) k = L k) := ⟨fun k hk _ => upd_ne (by omega)⟩
  generalize upd L N (osl gl 76 [.pointer (some ⟨g, 0, none⟩), .int .i64 sz, .bool false]) = L1 at H1 EL
  generalize w.alloc (.cells #[.pointer (some ⟨g, 0, none⟩), .int .i64 sz, .bool false] 76) = w1 at H1 ⊢
  clear PG hgl H0
  have CR := at_read H1.out.at_ 0 b HRA.out
  clear q1 q1' q2 q2'
  go_wp2_with (first
    | (go_at_call 25; (with_reducible refine CR.mono ?_); rintro e w' ⟨rfl, hw⟩; obtain rfl := hw.symm)
    | (go_at_call 34; (with_reducible refine (CF _).mono ?_); rintro e w2 ⟨rfl, hb⟩; have H2 := Aside0.mk (H1.out.below hb); clear hb)
    | (go_at_call 37; (with_reducible refine (CN' _).mono ?_); rintro e w3 ⟨rfl, hb⟩; have H3 := Aside0.mk (H2.out.below hb); clear hb)
    | (go_at_call 38; (with_reducible refine (recover_none H3.out HQ.out).mono ?_); rintro e w4 ⟨rfl, hb⟩; have H4 := Aside0.mk (H3.out.below hb); clear hb))
  go_ret2
  exact ⟨gl, L1, rfl, H4.out, EL.out⟩
end Go.Proofs.Ytfagljigaippiaa.Dk
