/- Remove and Since of a stack: chosen, over closures. -/
import Derived.Test.YtmgiolijjheodaaX6
import Derived.Test.YtmgiolijjheodaaPlace
namespace Go.Proofs.Ytmgiolijjheodaa.X
open Go.RowKit Go.Proofs.YtmgiolijjheodaaW.PrintWords Go.Proofs.YtmgiolijjheodaaW.PrintLast
set_option linter.unusedVariables false
set_option linter.unusedSimpArgs false
theorem removeFn_enters : ∀ args w, (callFunc 42 args).run Try.prog w = .ok (.enter 42 args) w := Go.Proofs.enters_of Try.func42 (by kernel_rfl) rfl
set_option maxHeartbeats 4000000 in
theorem removeFn_calls (gone : Int) (gs : Nat) (i : Int) (W : World) (hg : W.cell? ⟨gs, 0, none⟩ = some (.int .i64 gone)) :
    Calls Try.prog 42 (#[.int .i64 i] ++ #[.pointer (some ⟨gs, 0, none⟩)]) W fun e w' => e = .returned (.bool (i != gone)) ∧ Drawn0 W w' := by
  go_enter Try.func42, Try.ntmps42
  go_wp2
  go_ret
  exact ⟨rfl, Drawn0.refl _⟩
def stack_Remove.f (k : Nat) (l0 : List (S25)) (a1 : Int) : Option (List (S25) × Int) := (stack_place.f l0 a1).bind fun i => (if i < 0 then some (([] : List (S25)), 72) else ((stack_chosen.f (fun j => some (j != i)) k l0).bind fun r => some (r, 0)))
theorem stack_Remove.mono : ∀ a0 a1 k, LeO (stack_Remove.f k a0 a1) (stack_Remove.f (k + 1) a0 a1) := by
  intro a0 a1 k
  unfold stack_Remove.f
  refine LeO.bind (LeO.refl _) (fun i => LeO.ite (LeO.refl _) (LeO.bind (stack_chosen.mono _ _ _) (fun _ => LeO.refl _)))
set_option maxHeartbeats 4000000 in
set_option maxRecDepth 100000 in
theorem stack_Remove.calls (k : Nat) (A0 : Option Addr) (c0 : Nat) (l0 : List (S25)) (a1 : Int) (r1 : List (S25)) (r2 : Int) (w : World) (hr0 : Kd.C k25 w A0 l0.length l0) (hc0 : l0.length ≤ c0) (h : stack_Remove.f k l0 a1 = some (r1, r2)) :
    Calls Try.prog 18 #[.slice A0 l0.length c0, .int .i64 a1] w fun e w' => ∃ v0_ : Value, e = .returned (.tuple #[v0_, .int .i64 r2]) ∧ Kd.S k25 25 w' w.heap.size (fun _ => True) v0_ r1 ∧ Below w.heap.size w w' := by
  unfold stack_Remove.f at h
  obtain ⟨i, hi, h⟩ := Option.bind_eq_some_iff.mp h
  have HI := Aside0.mk hi
  have HR0 := Aside0.mk hr0
  have HC0 := Aside0.mk hc0
  have hmf : ∀ (fn : Fn) (first cap : Array Value) (w : World), (Instr.makeFunc fn first cap).run Try.prog w = .ok (.func fn first cap) w := fun _ _ _ _ => rfl
  clear hi hr0 hc0
  by_cases hz : i < 0
  · rw [if_pos hz] at h
    simp only [Option.some.injEq, Prod.mk.injEq] at h
    obtain ⟨rfl, rfl⟩ := h
    go_enter Try.func18, Try.ntmps18
    go_wp2_with (first | (go_at_call 41; refine (stack_place.calls A0 c0 l0 a1 i _ HR0.out HC0.out HI.out).mono ?_; rintro e w1 ⟨rfl, hb⟩))
    go_ret2
    exact ⟨_, rfl, Kd.S_nil _ _ _ _ _, by repeat (first | exact hb | exact below_set (by assumption) (by have := hb.size; simp; omega) | apply below_alloc)⟩
  · rw [if_neg hz] at h
    obtain ⟨r, hr, h⟩ := Option.bind_eq_some_iff.mp h
    simp only [Option.some.injEq, Prod.mk.injEq] at h
    obtain ⟨rfl, rfl⟩ := h
    have HRR := Aside0.mk hr
    clear hr
    have hz' : 0 ≤ i := by omega
    go_enter Try.func18, Try.ntmps18
    go_wp2_with (first | (go_at_call 41; refine (stack_place.calls A0 c0 l0 a1 i _ HR0.out HC0.out HI.out).mono ?_; rintro e w1 ⟨rfl, hb⟩))
    have hb1 : Below w.heap.size w (w1.alloc (.cells #[.int .i64 i] 3)) := hb.alloc hb.size _
    refine (stack_chosen.calls (fun j => some (j != i)) 42 #[.pointer (some ⟨w1.heap.size, 0, none⟩)] removeFn_enters k _ c0 l0 r _ ?pays (Kd.C_below HR0.out hb1) HC0.out HRR.out).mono ?_
    case pays =>
      intro W j b hB _ _ hj
      obtain rfl := Option.some.inj hj
      exact removeFn_calls i _ j W ((hB.cell (p := ⟨w1.heap.size, 0, none⟩) (by simp)).trans (by simp))
    rintro e w2 ⟨v, rfl, hs, hb2⟩
    go_wp2
    go_ret2
    exact ⟨_, rfl, Kd.S_lower hs hb1.size, below_step hb1 hb2⟩
theorem sinceFn_enters : ∀ args w, (callFunc 43 args).run Try.prog w = .ok (.enter 43 args) w := Go.Proofs.enters_of Try.func43 (by kernel_rfl) rfl
set_option maxHeartbeats 4000000 in
theorem sinceFn_calls (m : Int) (gs gm : Nat) (A0 : Option Addr) (c0 : Nat) (l0 : List S25) (i : Int) (W : World) (h0 : 0 ≤ i) (h1 : i < (l0.length : Int)) (hr : Kd.C k25 W A0 l0.length l0) (hs : W.cell? ⟨gs, 0, none⟩ = some (.slice A0 l0.length c0)) (hm : W.cell? ⟨gm, 0, none⟩ = some (.int .i64 m)) :
    Calls Try.prog 43 (#[.int .i64 i] ++ #[.pointer (some ⟨gs, 0, none⟩), .pointer (some ⟨gm, 0, none⟩)]) W fun e w' => e = .returned (.bool (decide ((rd_T25 l0 i).f1 ≥ m))) ∧ Drawn0 W w' := by
  obtain ⟨ad, A4, c4, e, hx0, hx1, hx2, hx3, hx4, hl4, hi4⟩ := at_T25 hr i h0 h1
  subst e
  clear hr hx0 hx2 hx3 hx4 hl4 hi4
  go_enter Try.func43, Try.ntmps43
  go_wp2
  repeat (go_quiet (fail); try go_wp2)
  go_ret
  exact ⟨rfl, by repeat (first | exact Drawn0.refl _ | apply Drawn0.step)⟩
def stack_Since.f (k : Nat) (l0 : List (S25)) (a1 : Int) : Option (List (S25)) := stack_chosen.f (fun j => some (decide ((rd_T25 l0 j).f1 ≥ a1))) k l0
theorem stack_Since.mono : ∀ a0 a1 k, LeO (stack_Since.f k a0 a1) (stack_Since.f (k + 1) a0 a1) := by
  intro a0 a1 k
  unfold stack_Since.f
  exact stack_chosen.mono _ _ _
set_option maxHeartbeats 4000000 in
set_option maxRecDepth 100000 in
theorem stack_Since.calls (k : Nat) (A0 : Option Addr) (c0 : Nat) (l0 : List (S25)) (a1 : Int) (r : List (S25)) (w : World) (hr0 : Kd.C k25 w A0 l0.length l0) (hc0 : l0.length ≤ c0) (h : stack_Since.f k l0 a1 = some r) :
    Calls Try.prog 21 #[.slice A0 l0.length c0, .int .i64 a1] w fun e w' => ∃ v0_ : Value, e = .returned (v0_) ∧ Kd.S k25 25 w' w.heap.size (fun _ => True) v0_ r ∧ Below w.heap.size w w' := by
  unfold stack_Since.f at h
  have HRR := Aside0.mk h
  have HR0 := Aside0.mk hr0
  have HC0 := Aside0.mk hc0
  have hmf : ∀ (fn : Fn) (first cap : Array Value) (w : World), (Instr.makeFunc fn first cap).run Try.prog w = .ok (.func fn first cap) w := fun _ _ _ _ => rfl
  clear h hr0 hc0
  go_enter Try.func21, Try.ntmps21
  go_wp2_with fail
  have hb1 : Below w.heap.size w ((w.alloc (.cells #[.slice A0 l0.length c0] 22)).alloc (.cells #[.int .i64 a1] 2)) := ((Below.refl _ w).alloc (Nat.le_refl _) _).alloc (by simp) _
  refine (stack_chosen.calls (fun j => some (decide ((rd_T25 l0 j).f1 ≥ a1))) 43 #[.pointer (some ⟨w.heap.size, 0, none⟩), .pointer (some ⟨w.heap.size + 1, 0, none⟩)] sinceFn_enters k _ c0 l0 r _ ?pays (Kd.C_below HR0.out hb1) HC0.out HRR.out).mono ?_
  case pays =>
    intro W j b hB h0 h1 hj
    obtain rfl := Option.some.inj hj
    refine sinceFn_calls a1 _ _ A0 c0 l0 j W h0 h1 (Kd.C_below (Kd.C_below HR0.out hb1) hB) ?_ ?_
    · exact (hB.cell (p := ⟨w.heap.size, 0, none⟩) (by simp; omega)).trans (by simp)
    · exact (hB.cell (p := ⟨w.heap.size + 1, 0, none⟩) (by simp)).trans (by simp)
  rintro e w2 ⟨v, rfl, hs, hb2⟩
  go_wp2
  go_ret
  exact ⟨_, rfl, Kd.S_lower hs hb1.size, below_step hb1 hb2⟩
end Go.Proofs.Ytmgiolijjheodaa.X
