-- By a program of this session (wip/xprint.py over the kit's print).
import Derived.Test.YtbohpjbcjnapfaaX0
import Derived.Test.YtbohpjbcjnapfaaX35
import Derived.Test.YtbohpjbcjnapfaaX36
import Derived.Test.YtbohpjbcjnapfaaX40
import Derived.Test.YtbohpjbcjnapfaaX41
namespace Go.Proofs.Ytbohpjbcjnapfaa.X
open Go.RowKit Go.Proofs.YtbohpjbcjnapfaaW.PrintWords Go.Proofs.YtbohpjbcjnapfaaW.PrintLast Go.Proofs.YtbohpjbcjnapfaaW.PrintMore
attribute [local go_sem] max2_int min2_int max_two min_two max_three min_three max_four min_four Go.Proofs.Ytbohpjbcjnapfaa.Z.leq_string Go.Proofs.Ytbohpjbcjnapfaa.Z.gtr_string Go.Proofs.Ytbohpjbcjnapfaa.Z.geq_string   -- for this text's walks alone
set_option linter.unusedVariables false
set_option linter.unusedSimpArgs false

/-! ### cofferlaw05_TupleReads: function 4 -/
def cofferlaw05_TupleReads.f (k : Nat) (a0 : ByteArray) : Option (Bool) := (cofferlaw05_head.f k).bind fun t198 => (if t198 = true then ((tuple_Read.f k a0).bind fun bt199 => ((cofferref05_Read.f k a0).bind fun bt203 => (if bt199.2 = bt203.2 then ((cofferlaw05_same.f k bt199.1 bt203.1).bind fun t207 => (some t207)) else (none)))) else (none))
theorem cofferlaw05_TupleReads.mono : ∀ a0 k, LeO (cofferlaw05_TupleReads.f k a0) (cofferlaw05_TupleReads.f (k + 1) a0) := by
  intro a0 k
  unfold cofferlaw05_TupleReads.f
  repeat' first
      | (with_reducible exact cofferlaw05_head.mono _)
      | (with_reducible exact cofferlaw05_same.mono _ _ _)
      | (with_reducible exact cofferref05_Read.mono _ _)
      | (with_reducible exact tuple_Read.mono _ _)
      | (with_reducible exact LeO.refl _)
      | (with_reducible exact LeO.none _)
      | (with_reducible refine LeO.ite ?_ ?_)
      | (with_reducible refine LeO.bind ?_ (fun _ => ?_))
      | exact cofferlaw05_head.mono _
      | exact cofferlaw05_same.mono _ _ _
      | exact cofferref05_Read.mono _ _
      | exact tuple_Read.mono _ _
      | exact LeO.none _
      | refine LeO.ite ?_ ?_
      | refine LeO.bind ?_ (fun _ => ?_)
set_option maxHeartbeats 8000000 in
set_option maxRecDepth 100000 in
theorem cofferlaw05_TupleReads.calls (k : Nat) (a0 : ByteArray) (r : Bool) (w : World) (h : cofferlaw05_TupleReads.f k a0 = some r) :
    Calls Try.prog 4 #[.string a0] w fun e w' => e = .returned (.bool r) ∧ Below w.heap.size w w' := by
  have HB := Aside0.mk (Below.refl w.heap.size w)
  have H : ((cofferlaw05_head.f k).bind fun t198 => (if t198 = true then ((tuple_Read.f k a0).bind fun bt199 => ((cofferref05_Read.f k a0).bind fun bt203 => (if bt199.2 = bt203.2 then ((cofferlaw05_same.f k bt199.1 bt203.1).bind fun t207 => (some t207)) else (none)))) else (none))) = some r := h
  clear h
  replace H := Option.bind_eq_some_iff.mp H
  obtain ⟨t198, A20, H⟩ := H
  replace H : (if t198 = true then ((tuple_Read.f k a0).bind fun bt199 => ((cofferref05_Read.f k a0).bind fun bt203 => (if bt199.2 = bt203.2 then ((cofferlaw05_same.f k bt199.1 bt203.1).bind fun t207 => (some t207)) else (none)))) else (none)) = some r := H
  have A2 := Aside0.mk A20
  clear A20
  by_cases c3 : t198 = true
  · subst c3
    have H1 : ((tuple_Read.f k a0).bind fun bt199 => ((cofferref05_Read.f k a0).bind fun bt203 => (if bt199.2 = bt203.2 then ((cofferlaw05_same.f k bt199.1 bt203.1).bind fun t207 => (some t207)) else (none)))) = some r := by rw [if_pos rfl] at H; exact H
    clear H
    have H := H1
    clear H1
    replace H := Option.bind_eq_some_iff.mp H
    obtain ⟨⟨t199, t200⟩, A40, H⟩ := H
    replace H : ((cofferref05_Read.f k a0).bind fun bt203 => (if t200 = bt203.2 then ((cofferlaw05_same.f k t199 bt203.1).bind fun t207 => (some t207)) else (none))) = some r := H
    have A4 := Aside0.mk A40
    clear A40
    replace H := Option.bind_eq_some_iff.mp H
    obtain ⟨⟨t203, t204⟩, A50, H⟩ := H
    replace H : (if t200 = t204 then ((cofferlaw05_same.f k t199 t203).bind fun t207 => (some t207)) else (none)) = some r := H
    have A5 := Aside0.mk A50
    clear A50
    by_cases c6 : t200 = t204
    · rw [if_pos c6] at H
      have c6b0 : (t200 == t204) = true := beq_iff_eq.mpr c6
      have c6b1 : (t200 != t204) = false := bne_eq_false_iff_eq.mpr c6
      clear c6
      replace H := Option.bind_eq_some_iff.mp H
      obtain ⟨t207, A70, H⟩ := H
      replace H : (some t207) = some r := H
      have A7 := Aside0.mk A70
      clear A70
      obtain rfl := Option.some.inj H
      go_enter Try.func4, Try.ntmps4
      go_wp2_with (first | ((with_reducible refine gate_callee (f := 10) rfl ?_); refine goesL_ (some 7) rfl rfl Try.func10 (by kernel_rfl) rfl #[] rfl (by (try simp only [List.map_toArray, List.map_cons, List.map_nil]); first | done | rfl | (simp only [List.length_drop, List.length_take]; rfl)) ?_; (with_reducible refine (cofferlaw05_head.calls k  true _ A2.out).mono ?_); rintro e w8 ⟨rfl, hb⟩; refine ⟨_, rfl, ?_⟩; have n0_ := Aside0.mk (below_step (by repeat (first | (with_reducible first | exact HB.out | apply below_alloc | apply pw_below_drewN | apply below_drew1) | exact HB.out)) hb); clear HB; have HB := n0_; clear n0_; (try clear hb); (try clear hb2); (try clear hk); (try clear hi)) | ((with_reducible refine gate_callee (f := 19) rfl ?_); refine goesL_ (some 11) rfl rfl Try.func19 (by kernel_rfl) rfl #[.string a0] rfl (by (try simp only [List.map_toArray, List.map_cons, List.map_nil]); first | done | rfl | (simp only [List.length_drop, List.length_take]; rfl)) ?_; (with_reducible refine (tuple_Read.calls k a0 t199 t200 _ A4.out).mono ?_); rintro e w9 ⟨v201, rfl, ho0, hb⟩; refine ⟨_, rfl, ?_⟩; have n0_ := Aside0.mk (Kd.R_lower ho0 (below_size (by repeat (first | (with_reducible first | exact HB.out | apply below_alloc | apply pw_below_drewN | apply below_drew1) | exact HB.out)))); have n1_ := Aside0.mk (below_step (by repeat (first | (with_reducible first | exact HB.out | apply below_alloc | apply pw_below_drewN | apply below_drew1) | exact HB.out)) hb); clear HB; have HO202 := n0_; have HB := n1_; clear n0_ n1_; (try clear hb); (try clear hb2); (try clear hk); (try clear hi); (try clear ho0)) | ((with_reducible refine gate_callee (f := 20) rfl ?_); refine goesL_ (some 16) rfl rfl Try.func20 (by kernel_rfl) rfl #[.string a0] rfl (by (try simp only [List.map_toArray, List.map_cons, List.map_nil]); first | done | rfl | (simp only [List.length_drop, List.length_take]; rfl)) ?_; (with_reducible refine (cofferref05_Read.calls k a0 t203 t204 _ A5.out).mono ?_); rintro e w10 ⟨v205, rfl, ho0, hb⟩; refine ⟨_, rfl, ?_⟩; have n0_ := Aside0.mk (Kd.R_below (by (with_reducible repeat (first | apply Kd.R_alloc | apply Kd.R_drewN | apply Kd.R_drew)); exact HO202.out) hb); have n1_ := Aside0.mk (Kd.R_lower ho0 (below_size (by repeat (first | (with_reducible first | exact HB.out | apply below_alloc | apply pw_below_drewN | apply below_drew1) | exact HB.out)))); have n2_ := Aside0.mk (below_step (by repeat (first | (with_reducible first | exact HB.out | apply below_alloc | apply pw_below_drewN | apply below_drew1) | exact HB.out)) hb); clear HO202; clear HB; have HO202 := n0_; have HO206 := n1_; have HB := n2_; clear n0_ n1_ n2_; (try clear hb); (try clear hb2); (try clear hk); (try clear hi); (try clear ho0); obtain ⟨Ao11, co11, eo11⟩ := Kd.R_slice HO202.out; subst eo11; obtain ⟨Ao12, co12, eo12⟩ := Kd.R_slice HO206.out; subst eo12) | (go_at_call 21; (with_reducible refine (cofferlaw05_same.calls k _ _ t199 _ _ t203 t207 _ ?side1 ?side2 ?side3 ?side4 A7.out).mono ?_); (case side1 => repeat (first | exact (Kd.R_reads' HO202.out).2.2 | (with_reducible refine Kd.C_alloc ?_ _) | (with_reducible refine Kd.C_drewN ?_ _) | (with_reducible refine Kd.C_drew ?_))); (case side2 => exact (Kd.R_reads' HO202.out).2.1); (case side3 => repeat (first | exact (Kd.R_reads' HO206.out).2.2 | (with_reducible refine Kd.C_alloc ?_ _) | (with_reducible refine Kd.C_drewN ?_ _) | (with_reducible refine Kd.C_drew ?_))); (case side4 => exact (Kd.R_reads' HO206.out).2.1); rintro e w' ⟨rfl, ⟨nd, rfl⟩⟩))
      go_ret
      exact ⟨by first | rfl | (simp [errW_none, errW_some] <;> rfl) | (simp [*, errW_none, errW_some] <;> rfl), by repeat (first | (with_reducible first | exact HB.out | apply below_alloc | apply pw_below_drewN | apply below_drew1) | exact HB.out)⟩
    · rw [if_neg c6] at H
      exact absurd H (by simp)
  · replace c3 := Bool.eq_false_iff.mpr c3
    subst c3
    have H1 : (none) = some r := by rw [if_neg (show ¬ (false = true) by decide)] at H; exact H
    clear H
    have H := H1
    clear H1
    exact absurd H (by simp)

/-- THE ONE PURE STATEMENT of cofferlaw05_TupleReads: yours. -/
def cofferlaw05_TupleReads.Pure : Prop := ∀ (a0 : ByteArray), a0.size ≤ 140737488351232 → ∃ k, cofferlaw05_TupleReads.f k a0 = some true
theorem cofferlaw05_TupleReads.walk (P : cofferlaw05_TupleReads.Pure) (a0 : ByteArray) (w : World) (w0 : a0.size ≤ 140737488351232) :
    Calls Try.prog 4 #[.string a0] w fun e w' => e = .returned (.bool true) ∧ Below w.heap.size w w' := by
  obtain ⟨k, h⟩ := P a0 w0
  refine (cofferlaw05_TupleReads.calls k a0 true w h).mono ?_
  rintro e w' ⟨rfl, hd⟩
  exact ⟨rfl, hd⟩

end Go.Proofs.Ytbohpjbcjnapfaa.X
