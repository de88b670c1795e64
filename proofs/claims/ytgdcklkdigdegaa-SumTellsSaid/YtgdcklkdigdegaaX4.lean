-- By a program of this session (wip/xprint.py over the kit's print).
import Derived.Test.YtgdcklkdigdegaaX0
import Derived.Test.YtgdcklkdigdegaaX2
import Derived.Test.YtgdcklkdigdegaaX3
namespace Go.Proofs.Ytgdcklkdigdegaa.X
open Go.RowKit Go.Proofs.YtgdcklkdigdegaaW.PrintWords Go.Proofs.YtgdcklkdigdegaaW.PrintLast Go.Proofs.YtgdcklkdigdegaaW.PrintMore
attribute [local go_sem] Go.Proofs.Ytgdcklkdigdegaa.Z.leq_string Go.Proofs.Ytgdcklkdigdegaa.Z.gtr_string Go.Proofs.Ytgdcklkdigdegaa.Z.geq_string   -- for this text's walks alone
set_option linter.unusedVariables false
set_option linter.unusedSimpArgs false

/-! ### cofferlaw01_first: function 8 -/
def cofferlaw01_first.f  : Option (Bool) := (sum_Of.f (⟨#[49, 50, 51, 52, 53, 54, 55, 56, 57]⟩ : ByteArray)).bind fun t102 => (if t102 = 11051210869376104954 then ((sum_Of.f (⟨#[49, 50, 51, 52]⟩ : ByteArray)).bind fun t103 => ((sum_On.f t103 (⟨#[53, 54, 55, 56, 57]⟩ : ByteArray)).bind fun t104 => (if t104 = 11051210869376104954 then ((sum_On.f 5 (⟨#[]⟩ : ByteArray)).bind fun t105 => (some (t105 == 5))) else (none)))) else (none))
set_option maxHeartbeats 8000000 in
set_option maxRecDepth 100000 in
theorem cofferlaw01_first.calls  (r : Bool) (w : World) (h : cofferlaw01_first.f  = some r) :
    Calls Try.prog 8 #[] w fun e w' => e = .returned (.bool r) ∧ Below w.heap.size w w' := by
  have HB := Aside0.mk (Below.refl w.heap.size w)
  have H : ((sum_Of.f (⟨#[49, 50, 51, 52, 53, 54, 55, 56, 57]⟩ : ByteArray)).bind fun t102 => (if t102 = 11051210869376104954 then ((sum_Of.f (⟨#[49, 50, 51, 52]⟩ : ByteArray)).bind fun t103 => ((sum_On.f t103 (⟨#[53, 54, 55, 56, 57]⟩ : ByteArray)).bind fun t104 => (if t104 = 11051210869376104954 then ((sum_On.f 5 (⟨#[]⟩ : ByteArray)).bind fun t105 => (some (t105 == 5))) else (none)))) else (none))) = some r := h
  clear h
  replace H := Option.bind_eq_some_iff.mp H
  obtain ⟨t102, A10, H⟩ := H
  replace H : (if t102 = 11051210869376104954 then ((sum_Of.f (⟨#[49, 50, 51, 52]⟩ : ByteArray)).bind fun t103 => ((sum_On.f t103 (⟨#[53, 54, 55, 56, 57]⟩ : ByteArray)).bind fun t104 => (if t104 = 11051210869376104954 then ((sum_On.f 5 (⟨#[]⟩ : ByteArray)).bind fun t105 => (some (t105 == 5))) else (none)))) else (none)) = some r := H
  have A1 := Aside0.mk A10
  clear A10
  by_cases c2 : t102 = 11051210869376104954
  · rw [if_pos c2] at H
    have c2b0 : (t102 == 11051210869376104954) = true := beq_iff_eq.mpr c2
    have c2b1 : (t102 != 11051210869376104954) = false := bne_eq_false_iff_eq.mpr c2
    clear c2
    replace H := Option.bind_eq_some_iff.mp H
    obtain ⟨t103, A30, H⟩ := H
    replace H : ((sum_On.f t103 (⟨#[53, 54, 55, 56, 57]⟩ : ByteArray)).bind fun t104 => (if t104 = 11051210869376104954 then ((sum_On.f 5 (⟨#[]⟩ : ByteArray)).bind fun t105 => (some (t105 == 5))) else (none))) = some r := H
    have A3 := Aside0.mk A30
    clear A30
    replace H := Option.bind_eq_some_iff.mp H
    obtain ⟨t104, A40, H⟩ := H
    replace H : (if t104 = 11051210869376104954 then ((sum_On.f 5 (⟨#[]⟩ : ByteArray)).bind fun t105 => (some (t105 == 5))) else (none)) = some r := H
    have A4 := Aside0.mk A40
    clear A40
    by_cases c5 : t104 = 11051210869376104954
    · rw [if_pos c5] at H
      have c5b0 : (t104 == 11051210869376104954) = true := beq_iff_eq.mpr c5
      have c5b1 : (t104 != 11051210869376104954) = false := bne_eq_false_iff_eq.mpr c5
      clear c5
      replace H := Option.bind_eq_some_iff.mp H
      obtain ⟨t105, A60, H⟩ := H
      replace H : (some (t105 == 5)) = some r := H
      have A6 := Aside0.mk A60
      clear A60
      obtain rfl := Option.some.inj H
      go_enter Try.func8, Try.ntmps8
      go_wp2_with (first | ((with_reducible refine gate_callee (f := 9) rfl ?_); refine goesL_ (some 1) rfl rfl Try.func9 (by kernel_rfl) rfl #[.string (⟨#[49, 50, 51, 52, 53, 54, 55, 56, 57]⟩ : ByteArray)] rfl (by (try simp only [List.map_toArray, List.map_cons, List.map_nil]); first | done | rfl | (simp only [List.length_drop, List.length_take]; rfl)) ?_; (with_reducible refine (sum_Of.calls (⟨#[49, 50, 51, 52, 53, 54, 55, 56, 57]⟩ : ByteArray) t102 _ A1.out).mono ?_); rintro e w7 ⟨rfl, hb⟩; refine ⟨_, rfl, ?_⟩; have n0_ := Aside0.mk (below_step (by repeat (first | (with_reducible first | exact HB.out | apply below_alloc | apply pw_below_drewN | apply below_drew1) | exact HB.out)) hb); clear HB; have HB := n0_; clear n0_; (try clear hb); (try clear hb2); (try clear hk); (try clear hi)) | (go_at_call 9; (with_reducible refine (sum_Of.calls (⟨#[49, 50, 51, 52]⟩ : ByteArray) t103 _ A3.out).mono ?_); rintro e w8 ⟨rfl, hb⟩; have n0_ := Aside0.mk (below_step (by repeat (first | (with_reducible first | exact HB.out | apply below_alloc | apply pw_below_drewN | apply below_drew1) | exact HB.out)) hb); clear HB; have HB := n0_; clear n0_; (try clear hb); (try clear hb2); (try clear hk); (try clear hi)) | (go_at_call 10; (with_reducible refine (sum_On.calls t103 (⟨#[53, 54, 55, 56, 57]⟩ : ByteArray) t104 _ A4.out).mono ?_); rintro e w9 ⟨rfl, hb⟩; have n0_ := Aside0.mk (below_step (by repeat (first | (with_reducible first | exact HB.out | apply below_alloc | apply pw_below_drewN | apply below_drew1) | exact HB.out)) hb); clear HB; have HB := n0_; clear n0_; (try clear hb); (try clear hb2); (try clear hk); (try clear hi)) | (go_at_call 10; (with_reducible refine (sum_On.calls 5 (⟨#[]⟩ : ByteArray) t105 _ A6.out).mono ?_); rintro e w10 ⟨rfl, hb⟩; have n0_ := Aside0.mk (below_step (by repeat (first | (with_reducible first | exact HB.out | apply below_alloc | apply pw_below_drewN | apply below_drew1) | exact HB.out)) hb); clear HB; have HB := n0_; clear n0_; (try clear hb); (try clear hb2); (try clear hk); (try clear hi)))
      go_ret
      exact ⟨by first | rfl | (simp [errW_none, errW_some] <;> rfl) | (simp [*, errW_none, errW_some] <;> rfl), by repeat (first | (with_reducible first | exact HB.out | apply below_alloc | apply pw_below_drewN | apply below_drew1) | exact HB.out)⟩
    · rw [if_neg c5] at H
      exact absurd H (by simp)
  · rw [if_neg c2] at H
    exact absurd H (by simp)

end Go.Proofs.Ytgdcklkdigdegaa.X
