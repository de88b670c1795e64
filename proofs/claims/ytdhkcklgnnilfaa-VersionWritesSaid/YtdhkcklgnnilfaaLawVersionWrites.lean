-- By a program of this session (wip/xprint.py over the kit's print).
import Derived.Test.YtdhkcklgnnilfaaRows
import Derived.Test.YtdhkcklgnnilfaaX33
import Derived.Test.YtdhkcklgnnilfaaPureVersionWrites
import Derived.Test.YtdhkcklgnnilfaaOpens
import Derived.WalkKit
import Derived.ProofKit
import Derived.OpenShut
import Derived.ShutString
import Derived.ChangeOld
import Derived.Below
import Derived.SizedLaws
namespace Go.Proofs.Ytdhkcklgnnilfaa.versionWrites
open Go.ChangeShapes Go.WideShapes Go.ChangeAt Go.RowKit Go.Proofs.Ytdhkcklgnnilfaa.X Go.Proofs.YtdhkcklgnnilfaaW.PrintWords Go.Proofs.YtdhkcklgnnilfaaW.PrintLast Go.Proofs.Ytdhkcklgnnilfaa.Opens
open Go.ChangeMaps (open_string shut_string)
set_option linter.unusedVariables false
set_option linter.unusedSimpArgs false
theorem own : ownKnob Try.prog.godebug = none := by kernel_rfl
theorem laidOut : laidOutB Try.prog = true := by kernel_rfl
theorem opens0 : Go.Proofs.Ytdhkcklgnnilfaa.Opens.Op Try.prog 24 k24 (fun x0 => (x0.f0.size ≤ 140737488351232) ∧ ((Lit.int .i64 x0.f1).wf = true) ∧ (True) ∧ (x0.f3.size ≤ 140737488351232) ∧ (x0.f4.length * 32 ≤ 140737488351232 ∧ ∀ q_ ∈ x0.f4, (q_.f0.size ≤ 140737488351232) ∧ (q_.f1.size ≤ 140737488351232))) := op_struct Try.underlying24 (opf_cons (op_string Try.underlying9) rfl (by kernel_rfl) (opf_cons (op_int Try.underlying2) rfl (by kernel_rfl) (opf_cons (op_bool Try.underlying4) rfl (by kernel_rfl) (opf_cons (op_string Try.underlying9) rfl (by kernel_rfl) (opf_one (op_slice Try.underlying22 (op_struct Try.underlying31 (opf_cons (op_string Try.underlying9) rfl (by kernel_rfl) (opf_one (op_string Try.underlying9) rfl (by kernel_rfl)) rfl) (by kernel_rfl) (fun x : S31 => (x.f0, x.f1)) (fun p => ⟨p.1, p.2⟩) (fun _ => rfl)) (by kernel_rfl)) rfl (by kernel_rfl)) rfl) rfl) rfl) rfl) (by kernel_rfl) (fun x : S24 => (x.f0, x.f1, x.f2, x.f3, x.f4)) (fun p => ⟨p.1, p.2.1, p.2.2.1, p.2.2.2.1, p.2.2.2.2⟩) (fun _ => rfl)
set_option maxRecDepth 100000 in
theorem lifted (os : Os) (started : os.Started) (H : Type) (enc : TypeId × Value → H) :
    ReturnsInHanded {} Try.checked os 3 .any (Rows.versionWritesSpec.pre6 enc Try.prog Try.f3 Rows.versionWritesRow.domain false) (Rows.versionWritesSpec.post enc Try.prog Try.f3 false true false false) := by
  refine returnsInHanded_of_change_sized (C := Try.checked) own started (by kernel_rfl) Try.func3
    (ChangeSpec.witness6 (enc := enc) (C := Try.checked) false ⟨#[], #[.agg #[.string ByteArray.empty, .int .i64 0, .bool false, .string ByteArray.empty, .slice none 0 0]], []⟩ 8 (by kernel_rfl) (by kernel_rfl) (by kernel_rfl) (by kernel_rfl)) ?_
  intro W base args ds gs before hval0 hW hcnd hsz0 _
  have hsz : (DataW.weightsEach Try.prog (Try.f3.params.toList ++ Rows.versionWritesSpec.plain.varTypes Try.prog) (ds ++ gs)).all (· ≤ reachBytes) = true := hsz0
  have hval : ∀ (j : Nat) t v, Try.f3.params[j]? = some t → args[j]? = some v → Value.okWide Try.prog W .any base t v := hval0
  have hW' := hW
  obtain ⟨p, q, hA0, hV, rfl, hfz, hnd⟩ := hW
  have hA : DataW.TrodAll enc Try.prog W 0 (fun _ => true) true Try.f3.params.toList args.toList ds p := hA0
  rw [Try.params3] at hA hval hsz
  obtain ⟨v0, vs0, d0, ds0, p0, q0, hargs, rfl, rfl, h0, r0⟩ := trodAll_cons hA
  obtain ⟨rfl, rfl, rfl⟩ := trodAll_nil r0
  obtain rfl : args = #[v0] := by cases args; simp_all
  obtain ⟨rfl, rfl⟩ := trodVars_none hV
  have k0 := h0
  have lt0 : ∀ x ∈ p0, x.block < W.heap.size := by obtain ⟨m, hm⟩ := k0; exact DataW.trod_lt m _ _ _ hm
  obtain ⟨cs0, rfl, _⟩ := okWide_struct Try.underlying24 (hval 0 24 v0 rfl rfl)
  obtain ⟨x0, K0, g0⟩ := op_arg opens0 hsz (j := 0) (t := 24) rfl rfl k0
  obtain ⟨A0_4, c0_4, e0, hc0_4, hr0_4⟩ := k24_open K0
  obtain rfl : cs0 = #[.string x0.f0, .int .i64 x0.f1, .bool x0.f2, .string x0.f3, .slice A0_4 x0.f4.length c0_4] := Array.ext' e0
  clear hA0 hval0 hsz0 hsz
  obtain ⟨k, h⟩ := Pure.VersionWrites x0 g0
  refine (cofferlaw13_VersionWrites.calls k x0.f0 x0.f1 x0.f2 x0.f3 A0_4 c0_4 x0.f4 true W hr0_4 hc0_4 h).mono fun e W' ⟨he, bel0⟩ => ?_
  have bel : Below W.heap.size W W' := bel0
  subst he
  exact ⟨_, rfl, _, _, _, [], _, [], hW', trodAll_mk1 (shut_bool Try.underlying4 _), (trodAll_cons_mk (Below.trod laidOut (by kernel_rfl) (of_decide_eq_true (by kernel_rfl)) k0 bel lt0) trodAll_mk0), rfl, bel.frame _, fun h => by cases h⟩
theorem over : Rows.versionWritesRow.holds Try.pinned (OpenSpec.ofChange Rows.versionWritesSpec) :=
  OpenClaim.holds_of_wide 3 Try.f3 rfl rfl rfl rfl rfl rfl rfl ⟨rfl, rfl, rfl, rfl, rfl⟩ rfl rfl rfl rfl rfl (by kernel_rfl) Try.func3 (by kernel_rfl)
    (of_decide_eq_true (by kernel_rfl)) (by unfold Func.isWrapper; first | (rw [if_pos (by decide +kernel)]; kernel_rfl) | (rw [if_neg (by decide +kernel)]; exact ⟨rfl, rfl⟩))
    (fun os started H enc _ => lifted os started H enc)
theorem proved : Rows.VersionWritesSaid := over
#print axioms proved
end Go.Proofs.Ytdhkcklgnnilfaa.versionWrites
