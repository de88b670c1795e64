/- place of a stack: slices.IndexFunc over a closure. -/
import Derived.Test.YtmgiolijjheodaaX0
import Derived.Shelf.Abstract
namespace Go.Proofs.Ytmgiolijjheodaa.X
open Go.RowKit Go.Proofs.YtmgiolijjheodaaW.PrintWords Go.Proofs.YtmgiolijjheodaaW.PrintLast
set_option linter.unusedVariables false
set_option linter.unusedSimpArgs false
/-- The place of the first one that p holds of; -1: there is none. -/
def pidx (p : S25 → Bool) : List S25 → Nat → Int
  | [], _ => -1
  | x :: l, i => if p x = true then (i : Int) else pidx p l (i + 1)
def aggV (x : S25) (A : Option Addr) (c : Nat) : Value := .agg #[.string x.f0, .int .i64 x.f1, .bool x.f2, .string x.f3, .slice A x.f4.length c]
set_option maxHeartbeats 4000000 in
set_option maxRecDepth 100000 in
theorem indexFunc_calls (p : S25 → Bool) (g : Nat) (lb : Array Value) (eg : ∀ args w, (callFunc g args).run Try.prog w = .ok (.enter g args) w) (A0 : Option Addr) (c0 : Nat) (l0 : List (S25)) (w : World)
    (hp : ∀ (W : World) (x : S25) (A : Option Addr) (c : Nat), Below w.heap.size w W → Calls Try.prog g (#[aggV x A c] ++ lb) W fun e w' => e = .returned (.bool (p x)) ∧ Below W.heap.size W w')
    (hr0 : Kd.C k25 w A0 l0.length l0) (hn : l0.length ≤ 9223372036854775807) :
    Calls Try.prog 47 #[.slice A0 l0.length c0, .func (.func g) #[] lb] w fun e w' => e = .returned (.int .i64 (pidx p l0 0)) ∧ Below w.heap.size w w' := by
  have hu25 := Try.underlying25
  have HP := Aside0.mk hp
  have HR0 := Aside0.mk hr0
  have HN := Aside0.mk hn
  clear hp hr0
  obtain ⟨r, hr⟩ : ∃ r, pidx p l0 0 = r := ⟨_, rfl⟩
  rw [hr]
  have H0 := Aside0.mk hr
  clear hr
  go_enter Try.func47, Try.ntmps47
  go_wp2
  go_loopw [8] (fun v8 wr => ∃ i : Nat, i ≤ l0.length ∧ v8 = .int .i64 i ∧ Aside0 (pidx p (l0.drop i) i = r) ∧ Aside0 (Below w.heap.size w wr)) (fun v8 _ => l0.length - (intOf v8).toNat)
  case atStart => exact ⟨0, by omega, rfl, by simpa using H0, ⟨Below.refl _ _⟩⟩
  case round =>
    clear H0
    obtain ⟨i, hi, rfl, H, HB⟩ := hrel
    by_cases hlt : i < l0.length
    · have h0 := H.out
      rw [List.drop_eq_getElem_cons hlt] at h0
      have hx : rd_T25 l0 (i : Int) = l0[i] := by
        unfold rd_T25
        rw [Int.toNat_natCast, List.getD_eq_getElem?_getD, List.getElem?_eq_getElem hlt]; rfl
      obtain ⟨ad, A4, c4, e, hx0, hx1, hx2, hx3, hx4, hl4, hi4⟩ := at_T25 HR0.out (i : Int) (by omega) (by omega)
      rw [hx] at hx0 hx1 hx2 hx3 hx4
      subst e
      replace hx0 := (HB.out.cell (World.block_lt_of_cell? w _ hx0)).trans hx0
      replace hx1 := (HB.out.cell (World.block_lt_of_cell? w _ hx1)).trans hx1
      replace hx2 := (HB.out.cell (World.block_lt_of_cell? w _ hx2)).trans hx2
      replace hx3 := (HB.out.cell (World.block_lt_of_cell? w _ hx3)).trans hx3
      replace hx4 := (HB.out.cell (World.block_lt_of_cell? w _ hx4)).trans hx4
      clear hx hl4 hi4 H
      generalize l0[i] = x at *
      have hc := HP.out wr x A4 c4 HB.out
      unfold aggV at hc
      have HC := Aside0.mk hc
      clear hc
      rw [Int.toNat_natCast] at hx0 hx1 hx2 hx3 hx4
      by_cases hpx : p x = true
      · have h1 : (i : Int) = r := by
          rw [← h0]; unfold pidx; rw [if_pos hpx]
        rw [hpx] at HC
        have H1 := Aside0.mk h1
        clear h0 hpx h1
        go_wp2_with (first | (go_at_fn g; refine (HC.out).mono ?_; rintro e w' ⟨rfl, hb⟩))
        go_ret
        exact ⟨show Ending.returned (.int .i64 (i : Int)) = .returned (.int .i64 r) by rw [H1.out], below_step HB.out hb⟩
      · have h1 : pidx p (l0.drop (i + 1)) (i + 1) = r := by
          rw [← h0]; conv => rhs; unfold pidx
          rw [if_neg hpx]
        have hpf : p x = false := by simpa using hpx
        rw [hpf] at HC
        have H1 := Aside0.mk h1
        clear h0 hpx hpf h1
        go_wp2_with (first | (go_at_fn g; refine (HC.out).mono ?_; rintro e w' ⟨rfl, hb⟩))
        go_roundw
        case rel => exact ⟨i + 1, by omega, by go_num, H1, ⟨below_step HB.out hb⟩⟩
        case measure => simp [intOf]; omega
    · have h0 := H.out
      rw [List.drop_of_length_le (by omega)] at h0
      have H1 := Aside0.mk (show (-1 : Int) = r from h0)
      clear h0 H
      go_wp2
      go_ret
      exact ⟨show Ending.returned (.int .i64 (-1)) = .returned (.int .i64 r) by rw [← H1.out], HB.out⟩
set_option maxHeartbeats 4000000 in
theorem placeFn_calls (seq : Int) (gs : Nat) (x : S25) (A : Option Addr) (c : Nat) (W : World) (hg : W.cell? ⟨gs, 0, none⟩ = some (.int .i64 seq)) :
    Calls Try.prog 48 (#[aggV x A c] ++ #[.pointer (some ⟨gs, 0, none⟩)]) W fun e w' => e = .returned (.bool (x.f1 == seq)) ∧ Below W.heap.size W w' := by
  have hlt := World.block_lt_of_cell? W _ hg
  have hlt' : gs < W.heap.size := hlt
  have hne : W.heap.size ≠ gs := by omega
  unfold aggV
  go_enter Try.func48, Try.ntmps48
  go_wp2
  go_ret
  exact ⟨rfl, (Below.refl _ _).alloc (Nat.le_refl _) _⟩
theorem placeFn_enters : ∀ args w, (callFunc 48 args).run Try.prog w = .ok (.enter 48 args) w := Go.Proofs.enters_of Try.func48 (by kernel_rfl) rfl
def stack_place.f (l0 : List (S25)) (a1 : Int) : Option (Int) := if l0.length ≤ 9223372036854775807 then some (pidx (fun x => x.f1 == a1) l0 0) else none
set_option maxHeartbeats 4000000 in
theorem stack_place.calls (A0 : Option Addr) (c0 : Nat) (l0 : List (S25)) (a1 : Int) (r : Int) (w : World) (hr0 : Kd.C k25 w A0 l0.length l0) (hc0 : l0.length ≤ c0) (h : stack_place.f l0 a1 = some r) :
    Calls Try.prog 41 #[.slice A0 l0.length c0, .int .i64 a1] w fun e w' => e = .returned (.int .i64 r) ∧ Below w.heap.size w w' := by
  have hn : l0.length ≤ 9223372036854775807 := by
    unfold stack_place.f at h
    by_cases hz : l0.length ≤ 9223372036854775807
    · exact hz
    · rw [if_neg hz] at h; cases h
  unfold stack_place.f at h
  rw [if_pos hn] at h
  obtain rfl := Option.some.inj h
  clear h
  have hmf : ∀ (fn : Fn) (first cap : Array Value) (w : World), (Instr.makeFunc fn first cap).run Try.prog w = .ok (.func fn first cap) w := fun _ _ _ _ => rfl
  have HC := Aside0.mk (indexFunc_calls (fun x => x.f1 == a1) 48 #[.pointer (some ⟨w.heap.size, 0, none⟩)] placeFn_enters A0 c0 l0 (w.alloc (.cells #[.int .i64 a1] 2))
    (fun W x A c hb => placeFn_calls a1 w.heap.size x A c W ((hb.cell (p := ⟨w.heap.size, 0, none⟩) (by simp)).trans (by simp)))
    (Kd.C_alloc hr0 _) hn)
  clear hr0
  go_enter Try.func41, Try.ntmps41
  go_wp2_with (first | (go_at_call 47; refine (HC.out).mono ?_; rintro e w' ⟨rfl, hb⟩))
  go_ret
  exact ⟨rfl, below_step ((Below.refl _ w).alloc (Nat.le_refl _) _) hb⟩
end Go.Proofs.Ytmgiolijjheodaa.X
