-- By a program of this session (wip/xprint.py over the kit's print).
import Derived.Test.YtebhmbdblifddaaX0
namespace Go.Proofs.Ytebhmbdblifddaa.X
open Go.RowKit Go.Proofs.YtebhmbdblifddaaW.PrintWords Go.Proofs.YtebhmbdblifddaaW.PrintLast Go.Proofs.YtebhmbdblifddaaW.PrintMore
attribute [local go_sem] max2_int min2_int max_two min_two max_three min_three max_four min_four Go.Proofs.Ytebhmbdblifddaa.Z.leq_string Go.Proofs.Ytebhmbdblifddaa.Z.gtr_string Go.Proofs.Ytebhmbdblifddaa.Z.geq_string   -- for this text's walks alone
set_option linter.unusedVariables false
set_option linter.unusedSimpArgs false

/-! ### disk_write: function 31 -/
def disk_write.f (l0 : List (S67)) : Option (List (S67)) := if l0.length < 5864062014805 then some l0 else none
set_option maxHeartbeats 4000000 in
theorem disk_write.calls (A0 : Option Addr) (c0 : Nat) (l0 : List (S67)) (r : List (S67)) (w : World) (hr0 : Kd.C k67 w A0 l0.length l0) (hc0 : l0.length ≤ c0) (h : disk_write.f l0 = some r) :
    Calls Try.prog 31 #[.slice A0 l0.length c0] w fun e w' => ∃ v0_ : Value, e = .returned (v0_) ∧ Kd.R k67 67 w' w.heap.size (fun _ => True) v0_ r ∧ Below w.heap.size w w' := by
  have hb : l0.length < 5864062014805 := by
    unfold disk_write.f at h
    by_cases hz : l0.length < 5864062014805
    · exact hz
    · rw [if_neg hz] at h; simp at h
  unfold disk_write.f at h
  rw [if_pos hb] at h
  obtain rfl := Option.some.inj h
  clear h
  have heq : ∀ w', (binOp .eql 62 (.slice A0 l0.length c0) (.slice none 0 0)).run Try.prog w' = .ok (.bool A0.isNone) w' := fun w' => Lib.run_eql_slice_nil w' 62 67 A0 l0.length c0 0 0 Try.underlying62
  have HR := Aside0.mk hr0
  have LM := Aside0.mk hb
  clear hr0 hb
  cases A0 with
  | none =>
    have hz : l0 = [] := by
      by_cases hp : 0 < l0.length
      · obtain ⟨ad, e, _⟩ := HR.out.2.2 hp; cases e
      · exact List.eq_nil_of_length_eq_zero (by omega)
    have HZ := Aside0.mk hz
    clear hz
    go_enter Try.func31, Try.ntmps31
    go_wp2
    go_ret
    exact ⟨_, rfl, by rw [HZ.out]; exact Kd.R_nil _ _ _ _ _, Below.refl _ _⟩
  | some ad =>
    go_enter Try.func31, Try.ntmps31
    have HB := Aside0.mk (Below.refl w.heap.size w)
    go_wp2_with (first | ((with_reducible refine gate_dst (N := 5) rfl ?_); refine Kd.R_lit k67 w.heap.size 67 ?hg (N := 5) ?hd (xs := ([] : List (S67))) (inner := []) (ok := fun _ => True) (okp := fun _ => True) ?hr ?hp (fun _ hk => hk) trivial HB.out (Nat.le_refl _) (by simp) ?_; (case hd => rfl); (case hg => rfl); (case hr => first | (go_simp; done) | (go_simp; rfl)); (case hp => exact (Reps.none _ _)); intro v213 w5 ho6 hb hg_ hnew_; clear hg_ hnew_; clear HB; have HB := Aside0.mk hb; have HO := Aside0.mk ho6; clear hb ho6) | ((with_reducible refine gate_builtin (b := .append) (xs := #[.tmp 5, .tmp 6]) rfl ?_); at_builtin; refine Kd.R_append_rows k67 (w0 := w) w.heap.size rfl (.tmp 5) (.tmp 6) 62 67 ((.agg #[(.int .i64 0), (.string ⟨#[]⟩)])) 24 rfl Try.underlying62 info67 rfl (by decide) (by omega) v213 ([] : List (S67)) l0 (some ad) l0.length c0 (fun _ => True) (fun _ => False) rfl rfl ?aO ?aR (fun _ _ h => h) (fun _ h => h.elim) ?aF ?aB ?aS ?aL ?_; (case aR => exact (Kd.C_below HR.out HB.out)); (case aB => exact HB.out); (case aF => exact (fun _ _ => trivial)); (case aO => exact HO.out); (case aS => exact HB.out.size); (case aL => have := LM.out; simp; omega); intro v216 w9 ho hb hg hat; clear HB HO; have HB := Aside0.mk hb; have HO := Aside0.mk ho; clear ho hb hg hat))
    go_ret
    exact ⟨_, rfl, by simpa using HO.out, HB.out⟩

end Go.Proofs.Ytebhmbdblifddaa.X
