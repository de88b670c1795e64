/- Chapter 7: all blocks of a log; lists of texts, of writes: are they the same, are they distinct. -/
import Derived.Test.YtfagljigaippiaaLgT
import Derived.Test.YtfagljigaippiaaXA
namespace Go.Proofs.Ytfagljigaippiaa.Dk
open Go.RowKit Go.Maps Go.Proofs.Ytfagljigaippiaa.X Go.Proofs.YtfagljigaippiaaW.PrintWords Go.Proofs.YtfagljigaippiaaW.PrintLast Go.Proofs.YtfagljigaippiaaW.PrintMore
set_option linter.unusedVariables false
set_option linter.unusedSimpArgs false

theorem and31 (n : Int) : bits .and .i64 n 31 = n % 32 := by
  have h15 : (BitVec.ofInt 64 31).toNat = 2 ^ 5 - 1 := by decide
  have key : (BitVec.ofInt 64 n &&& BitVec.ofInt 64 31).toNat = (n % ((2 ^ 64 : Nat) : Int)).toNat % 2 ^ 5 := by
    rw [BitVec.toNat_and, BitVec.toNat_ofInt, h15, Nat.and_two_pow_sub_one_eq_mod]
  show IntKind.i64.wrap ((BitVec.ofInt 64 n &&& BitVec.ofInt 64 31).toNat : Nat) = n % 32
  rw [key, IntKind.wrap_i64]
  omega
/-- The blocks' texts. -/
def sec (s : DS) (sz nb : Nat) : List ByteArray := (List.range nb).map fun k => s.seen.getD (sz + k) ByteArray.empty
theorem sec_len (s : DS) (sz nb : Nat) : (sec s sz nb).length = nb := by unfold sec; rw [List.length_map, List.length_range]
theorem sec_succ (s : DS) (sz nb : Nat) : sec s sz nb ++ [s.seen.getD (sz + nb) ByteArray.empty] = sec s sz (nb + 1) := by
  unfold sec
  rw [List.range_succ, List.map_append]; rfl
/-- A row of texts is read. -/
theorem texts_reads {base : Nat} {L : Nat → Sl} {N : Nat} {W : World} (h : Many base L N W) (t : Nat) (ht : t < N) (A : Option Addr) (c : Nat) (xs : List ByteArray) (hL : L t = ssl (.slice A xs.length c) xs) : Kd.C Kd.string W A xs.length xs := by
  have ho := h.1 t ht
  unfold Sl.here at ho
  rw [hL] at ho
  have ho' : W.ownsRow base 9 1 (.slice A xs.length c) xs.length (xs.map Value.string) := ho
  have hnl : xs.length ≤ 9223372036854775807 := by
    rcases ho'.2 with ⟨_, e2⟩ | ⟨g', cap', cur, e, _, _, h1, h2, _⟩
    · omega
    · have : cap' ≤ 9223372036854775807 := by simpa [maxLen] using h2
      omega
  refine ⟨rfl, hnl, fun h0 => ?_⟩
  obtain ⟨g', cap', e, _⟩ := World.ownsRow.form ho' h0
  injection e with e1 _ _
  subst e1
  refine ⟨_, rfl, fun k x hk => ⟨[.string x], rfl, rfl, fun q u hq => ?_⟩⟩
  refine ho'.cells (g := g') rfl (k * 1 + q) u ?_
  cases q with
  | zero =>
    simp only [List.getElem?_cons_zero, Option.some.injEq] at hq
    rw [Nat.add_zero, Nat.mul_one, List.getElem?_map, hk, ← hq]; rfl
  | succ q => simp at hq
theorem same_loop (l : List ByteArray) (hl : l.length ≤ 1048576) : ∀ d i : Nat, i + d = l.length → cofferlaw07_sameTexts.l0 (d + 1) l l (i : Int) = some true
  | 0, i, h => by
    rw [cofferlaw07_sameTexts.l0, if_neg (by omega)]
  | d + 1, i, h => by
    have e : wrap64 ((i : Int) + 1) = ((i + 1 : Nat) : Int) := by unfold wrap64; omega
    rw [cofferlaw07_sameTexts.l0, if_pos (by omega), if_pos (by omega), if_pos (by omega), if_pos rfl, e]
    exact same_loop l hl d (i + 1) (by omega)
theorem same_calls (l : List ByteArray) (hl : l.length ≤ 1048576) (A B : Option Addr) (c c' : Nat) (w : World) (h1 : Kd.C Kd.string w A l.length l) (h2 : Kd.C Kd.string w B l.length l) (hc : l.length ≤ c) (hc' : l.length ≤ c') :
    Calls Try.prog 15 #[.slice A l.length c, .slice B l.length c'] w fun e w' => e = .returned (.bool true) ∧ Below w.heap.size w w' := by
  refine (cofferlaw07_sameTexts.calls (l.length + 1) A c l B c' l true w h1 hc h2 hc' (by unfold cofferlaw07_sameTexts.f; rw [if_pos rfl]; exact same_loop l hl l.length 0 (by omega))).mono ?_
  rintro e w' ⟨rfl, hd⟩
  exact ⟨rfl, by first | exact hd | exact hd.below⟩
def m35 (ws : List (Int × ByteArray)) : List S35 := ws.map fun p => ⟨p.1, p.2⟩
theorem m35_C {W : World} {A : Option Addr} {n : Nat} {ws : List (Int × ByteArray)} (h : Kd.C kW W A n ws) : Kd.C k35 W A n (m35 ws) := by
  obtain ⟨h1, h2, h3⟩ := h
  refine ⟨by unfold m35; rw [List.length_map]; exact h1, h2, fun h0 => ?_⟩
  obtain ⟨ad, e, h4⟩ := h3 h0
  refine ⟨ad, e, fun j x hj => ?_⟩
  unfold m35 at hj
  rw [List.getElem?_map] at hj
  obtain ⟨p, hp, rfl⟩ := Option.map_eq_some_iff.1 hj
  obtain ⟨cs, hc, hk, hcell⟩ := h4 j p hp
  refine ⟨cs, hc, ?_, hcell⟩
  rw [kW_open hk]
  exact k35_mk W ⟨p.1, p.2⟩
theorem m35_at (ws : List (Int × ByteArray)) (i : Nat) (p : Int × ByteArray) (h : ws[i]? = some p) : (rd_T35 (m35 ws) (i : Int)).f0 = p.1 := by
  unfold rd_T35 m35
  rw [Int.toNat_natCast, List.getD_eq_getElem?_getD, List.getElem?_map, h]; rfl
theorem dist_inner (ws : List (Int × ByteArray)) (hl : ws.length ≤ 1048576) (hd : ∀ (i j : Nat) (p q : Int × ByteArray), j < i → ws[i]? = some p → ws[j]? = some q → q.1 ≠ p.1) (i : Nat) (hi : i < ws.length) : ∀ d j k : Nat, j + d = i → cofferlaw07_distinct.l1 (d + 1 + k) (m35 ws) (i : Int) (j : Int) = cofferlaw07_distinct.l0 k (m35 ws) ((i + 1 : Nat) : Int)
  | 0, j, k, h => by
    have e : wrap64 ((i : Int) + 1) = ((i + 1 : Nat) : Int) := by unfold wrap64; omega
    rw [show 0 + 1 + k = k + 1 by omega, cofferlaw07_distinct.l1, if_neg (by omega), e]
  | d + 1, j, k, h => by
    have hlen : (m35 ws).length = ws.length := by unfold m35; rw [List.length_map]
    have e : wrap64 ((j : Int) + 1) = ((j + 1 : Nat) : Int) := by unfold wrap64; omega
    have hji : j < ws.length := by omega
    obtain ⟨p, hp⟩ : ∃ p, ws[i]? = some p := ⟨_, List.getElem?_eq_getElem hi⟩
    obtain ⟨q, hq⟩ : ∃ q, ws[j]? = some q := ⟨_, List.getElem?_eq_getElem hji⟩
    rw [show d + 1 + 1 + k = (d + 1 + k) + 1 by omega, cofferlaw07_distinct.l1, hlen, if_pos (by omega), if_pos (by omega), if_pos (by omega), if_pos (by omega), if_pos (by omega), m35_at ws j q hq, m35_at ws i p hp, if_neg (hd i j p q (by omega) hp hq), e]
    exact dist_inner ws hl hd i hi d (j + 1) k (by omega)
theorem dist_outer (ws : List (Int × ByteArray)) (hl : ws.length ≤ 1048576) (hd : ∀ (i j : Nat) (p q : Int × ByteArray), j < i → ws[i]? = some p → ws[j]? = some q → q.1 ≠ p.1) : ∀ d i : Nat, i + d = ws.length → ∃ k, cofferlaw07_distinct.l0 k (m35 ws) (i : Int) = some true
  | 0, i, h => ⟨1, by
    have hlen : (m35 ws).length = ws.length := by unfold m35; rw [List.length_map]
    rw [cofferlaw07_distinct.l0, hlen, if_neg (by omega)]⟩
  | d + 1, i, h => by
    have hlen : (m35 ws).length = ws.length := by unfold m35; rw [List.length_map]
    obtain ⟨k, hk⟩ := dist_outer ws hl hd d (i + 1) (by omega)
    refine ⟨i + 1 + k + 1, ?_⟩
    rw [cofferlaw07_distinct.l0, hlen, if_pos (by omega)]
    have := dist_inner ws hl hd i (by omega) i 0 k (by omega)
    exact this.trans hk
theorem distinct_calls (ws : List (Int × ByteArray)) (hl : ws.length ≤ 1048576) (hd : ∀ (i j : Nat) (p q : Int × ByteArray), j < i → ws[i]? = some p → ws[j]? = some q → q.1 ≠ p.1) (A : Option Addr) (c : Nat) (w : World) (h : Kd.C kW w A ws.length ws) (hc : ws.length ≤ c) :
    Calls Try.prog 12 #[.slice A ws.length c] w fun e w' => e = .returned (.bool true) ∧ Below w.heap.size w w' := by
  obtain ⟨k, hk⟩ := dist_outer ws hl hd ws.length 0 (by omega)
  have hlen : (m35 ws).length = ws.length := by unfold m35; rw [List.length_map]
  have := cofferlaw07_distinct.calls k A c (m35 ws) true w (by rw [hlen]; exact m35_C h) (by rw [hlen]; exact hc) hk
  rw [hlen] at this
  refine this.mono ?_
  rintro e w' ⟨rfl, hd⟩
  exact ⟨rfl, by first | exact hd | exact hd.below⟩
set_option maxHeartbeats 16000000 in
set_option maxRecDepth 100000 in
/-- all: every block's text, a row of its own. -/
theorem all_calls {base : Nat} {L : Nat → Sl} {N i g j gl : Nat} {s : DS} {n m sz : Nat} {w0 w : World} (h : Lg base L N i g j gl s n m sz false w0 w) (ho : s.off = false) (hsz : sz ≤ 8192) (nb : Nat) (hn : sz + nb = n) :
    Calls Try.prog 14 #[.pointer (some ⟨gl, 0, none⟩), .int .i64 (nb : Int)] w fun r w' => ∃ A c L', r = .returned (.tuple #[.slice A nb c, .bool true]) ∧ nb ≤ c ∧ Lg base L' (N + 1) i g j gl s n m sz false w0 w' ∧ L' N = ssl (.slice A nb c) (sec s sz nb) ∧ (∀ k, k < N → (k < i ∨ i + 4 ≤ k) → k ≠ j → L' k = L k) := by
  have hi := h.at_.hi
  have hj := h.hj
  have ap := h.ap
  have hnb := h.at_.hn
  have H0 := Aside0.mk (h.add (ssl (.slice none 0 0) []) (Below.refl _ _) (World.ownsRow_nil _ base 9 1) (fun k hk => by simp [ssl, Value.ownBlock] at hk))
  have HN0 : Aside0 (upd L N (ssl (.slice none 0 0) []) N = ssl (.slice none 0 0) []) := ⟨upd_at _ _ _⟩
  have EL0 : Aside0 (∀ k, k < N → (k < i ∨ i + 4 ≤ k) → k ≠ j → upd L N (ssl (.slice none 0 0) []) k = L k) := ⟨fun k hk _ _ => upd_ne (by omega)⟩
  generalize upd L N (ssl (.slice none 0 0) []) = L0 at H0 HN0 EL0
  clear h
  go_enter Try.func14, Try.ntmps14
  go_wp2
  go_loopw [6, 7] (fun v6 v7 W => ∃ (k : Nat) (L1 : Nat → Sl) (A1 : Option Addr) (c1 : Nat), k ≤ nb ∧ v7 = .int .i64 k ∧ v6 = .slice A1 k c1 ∧ Aside0 (Lg base L1 (N + 1) i g j gl s n m sz false w0 W) ∧ Aside0 (L1 N = ssl (.slice A1 k c1) (sec s sz k)) ∧ Aside0 (∀ q, q < N → (q < i ∨ i + 4 ≤ q) → q ≠ j → L1 q = L q)) (fun v6 v7 _ => nb - (intOf v7).toNat)
  case atStart => exact ⟨0, L0, none, 0, Nat.zero_le _, rfl, rfl, H0, HN0, EL0⟩
  case round =>
    clear H0 HN0 EL0
    obtain ⟨k, L1, A1, c1, hk, rfl, rfl, H, HN, EL⟩ := hrel
    by_cases hlt : k < nb
    · have q1 : ((k : Int) < (nb : Int)) = True := eq_true (by omega)
      have CR := lread_ok H.out ho hsz k (by omega)
      obtain ⟨x, hx⟩ : ∃ x, x = s.seen.getD (sz + k) ByteArray.empty := ⟨_, rfl⟩
      rw [← hx] at CR
      have HX := Aside0.mk hx
      clear hx
      go_upto_region 8 with (go_at_call 22; (with_reducible refine CR.mono ?_); rintro e w3 ⟨rfl, L3, h3, e3⟩; have H3 := Aside0.mk h3; have E3 := Aside0.mk e3; clear h3 e3)
      clear CR q1
      have hN3 := (E3.out N (by omega) (by omega)).trans HN.out
      obtain ⟨v', w4, hr, M4, B4⟩ := many_grow 22 9 1 16 (.string ByteArray.empty) Try.underlying22 infoS rfl (by decide) (by decide) H3.out.at_.many N (by omega) _ _ _ hN3 [.string x] rfl (fun q hq => by rw [List.mem_singleton.1 hq]; rfl) H3.out.at_.bel H3.out.at_.base (by rw [sec_len]; omega)
      obtain ⟨A5, c5, e5, _⟩ := many_val M4 N (by omega)
      rw [upd_at] at e5
      have e5' : v' = .slice A5 (k + 1) c5 := by rw [← sec_len s sz k]; exact e5
      subst e5'
      have HR := Aside0.mk hr
      have H4 := Aside0.mk (H3.out.put N (by omega) (by omega) _ M4 B4)
      have HN4 : Aside0 (upd L3 N ⟨.slice A5 (k + 1) c5, 9, 1, (sec s sz k).length + 1, (sec s sz k).map Value.string ++ [.string x]⟩ N = ssl (.slice A5 (k + 1) c5) (sec s sz (k + 1))) := ⟨by rw [upd_at, ssl_snoc, HX.out, sec_succ]⟩
      have EL4 : Aside0 (∀ q, q < N → (q < i ∨ i + 4 ≤ q) → q ≠ j → upd L3 N ⟨.slice A5 (k + 1) c5, 9, 1, (sec s sz k).length + 1, (sec s sz k).map Value.string ++ [.string x]⟩ q = L q) := ⟨fun q hq h1 h2 => by rw [upd_ne (by omega), E3.out q h1 h2]; exact EL.out q hq h1 h2⟩
      generalize upd L3 N ⟨.slice A5 (k + 1) c5, 9, 1, (sec s sz k).length + 1, (sec s sz k).map Value.string ++ [.string x]⟩ = L4 at H4 HN4 EL4
      clear hr M4 B4 e5 hN3 H HN EL E3 H3 HX
      go_wp2_with (first
        | ((with_reducible refine gate_dst (N := 26) rfl ?_); go_loud (refine Kd.event_run rfl (exec_append (t := 22) (.tmp 23) (.tmp 25) rfl rfl _ _ rfl rfl HR.out) ?_)))
      exact ⟨⟨k + 1, L4, A5, c5, by omega, by go_num, rfl, H4, HN4, EL4⟩, by simp [intOf]; omega⟩
    · have q1 : ((k : Int) < (nb : Int)) = False := eq_false (by omega)
      obtain rfl : k = nb := by omega
      have CB := blocks_calls H.out hsz
      rw [show (n : Int) - sz = (k : Int) by omega] at CB
      obtain ⟨A', c', e', hc'⟩ := many_val H.out.at_.many N (by omega)
      rw [HN.out] at e' hc'
      have hcc : k ≤ c1 := by
        injection e' with _ _ e3
        rw [e3]
        exact Nat.le_trans (Nat.le_of_eq (sec_len s sz k).symm) hc'
      clear e' hc'
      go_wp2_with (go_at_call 10; (with_reducible refine CB.mono ?_); rintro e w3 ⟨rfl, hb⟩; have H3 := Aside0.mk (H.out.below hb); clear hb)
      go_ret2
      exact ⟨A1, c1, L1, rfl, hcc, H3.out, HN.out, EL.out⟩
end Go.Proofs.Ytfagljigaippiaa.Dk
