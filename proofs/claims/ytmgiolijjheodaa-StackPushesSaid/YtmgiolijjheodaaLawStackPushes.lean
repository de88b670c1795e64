-- By a program of this session (wip/xprint.py over the kit's print).
import Derived.Test.YtmgiolijjheodaaRows
import Derived.Test.YtmgiolijjheodaaX50
import Derived.Test.YtmgiolijjheodaaPureStackPushes
import Derived.Test.YtmgiolijjheodaaOpens
import Derived.WalkKit
import Derived.ProofKit
import Derived.OpenShut
import Derived.ShutString
import Derived.ChangeOld
import Derived.Below
import Derived.SizedLaws
namespace Go.Proofs.Ytmgiolijjheodaa.stackPushes
open Go.ChangeShapes Go.WideShapes Go.ChangeAt Go.RowKit Go.Proofs.Ytmgiolijjheodaa.X Go.Proofs.YtmgiolijjheodaaW.PrintWords Go.Proofs.YtmgiolijjheodaaW.PrintLast Go.Proofs.Ytmgiolijjheodaa.Opens
open Go.ChangeMaps (open_string shut_string)
set_option linter.unusedVariables false
set_option linter.unusedSimpArgs false
theorem own : ownKnob Try.prog.godebug = none := by kernel_rfl
theorem laidOut : laidOutB Try.prog = true := by kernel_rfl
theorem opens0 : Go.Proofs.Ytmgiolijjheodaa.Opens.Op Try.prog 22 (Kd.slice 25 k25) (fun l0 => l0.length * 72 ≤ 140737488351232 ∧ ∀ q_ ∈ l0, (q_.f0.size ≤ 140737488351232) ∧ ((Lit.int .i64 q_.f1).wf = true) ∧ (True) ∧ (q_.f3.size ≤ 140737488351232) ∧ (q_.f4.length * 32 ≤ 140737488351232 ∧ ∀ qq_ ∈ q_.f4, (qq_.f0.size ≤ 140737488351232) ∧ (qq_.f1.size ≤ 140737488351232))) := op_slice Try.underlying22 (op_struct Try.underlying25 (opf_cons (op_string Try.underlying9) rfl (by kernel_rfl) (opf_cons (op_int Try.underlying2) rfl (by kernel_rfl) (opf_cons (op_bool Try.underlying4) rfl (by kernel_rfl) (opf_cons (op_string Try.underlying9) rfl (by kernel_rfl) (opf_one (op_slice Try.underlying23 (op_struct Try.underlying49 (opf_cons (op_string Try.underlying9) rfl (by kernel_rfl) (opf_one (op_string Try.underlying9) rfl (by kernel_rfl)) rfl) (by kernel_rfl) (fun x : S49 => (x.f0, x.f1)) (fun p => ⟨p.1, p.2⟩) (fun _ => rfl)) (by kernel_rfl)) rfl (by kernel_rfl)) rfl) rfl) rfl) rfl) (by kernel_rfl) (fun x : S25 => (x.f0, x.f1, x.f2, x.f3, x.f4)) (fun p => ⟨p.1, p.2.1, p.2.2.1, p.2.2.2.1, p.2.2.2.2⟩) (fun _ => rfl)) (by kernel_rfl)
theorem opens1 : Go.Proofs.Ytmgiolijjheodaa.Opens.Op Try.prog 25 k25 (fun x1 => (x1.f0.size ≤ 140737488351232) ∧ ((Lit.int .i64 x1.f1).wf = true) ∧ (True) ∧ (x1.f3.size ≤ 140737488351232) ∧ (x1.f4.length * 32 ≤ 140737488351232 ∧ ∀ q_ ∈ x1.f4, (q_.f0.size ≤ 140737488351232) ∧ (q_.f1.size ≤ 140737488351232))) := op_struct Try.underlying25 (opf_cons (op_string Try.underlying9) rfl (by kernel_rfl) (opf_cons (op_int Try.underlying2) rfl (by kernel_rfl) (opf_cons (op_bool Try.underlying4) rfl (by kernel_rfl) (opf_cons (op_string Try.underlying9) rfl (by kernel_rfl) (opf_one (op_slice Try.underlying23 (op_struct Try.underlying49 (opf_cons (op_string Try.underlying9) rfl (by kernel_rfl) (opf_one (op_string Try.underlying9) rfl (by kernel_rfl)) rfl) (by kernel_rfl) (fun x : S49 => (x.f0, x.f1)) (fun p => ⟨p.1, p.2⟩) (fun _ => rfl)) (by kernel_rfl)) rfl (by kernel_rfl)) rfl) rfl) rfl) rfl) (by kernel_rfl) (fun x : S25 => (x.f0, x.f1, x.f2, x.f3, x.f4)) (fun p => ⟨p.1, p.2.1, p.2.2.1, p.2.2.2.1, p.2.2.2.2⟩) (fun _ => rfl)
set_option maxRecDepth 100000 in
theorem lifted (os : Os) (started : os.Started) (H : Type) (enc : TypeId × Value → H) :
    ReturnsInHanded {} Try.checked os 3 .any (Rows.stackPushesSpec.pre6 enc Try.prog Try.f3 Rows.stackPushesRow.domain false) (Rows.stackPushesSpec.post enc Try.prog Try.f3 false true false false) := by
  refine returnsInHanded_of_change_sized (C := Try.checked) own started (by kernel_rfl) Try.func3
    (ChangeSpec.witness6 (enc := enc) (C := Try.checked) false ⟨#[], #[.slice none 0 0, .agg #[.string ByteArray.empty, .int .i64 0, .bool false, .string ByteArray.empty, .slice none 0 0]], []⟩ 8 (by kernel_rfl) (by kernel_rfl) (by kernel_rfl) (by kernel_rfl)) ?_
  intro W base args ds gs before hval0 hW hcnd hsz0 _
  have hsz : (DataW.weightsEach Try.prog (Try.f3.params.toList ++ Rows.stackPushesSpec.plain.varTypes Try.prog) (ds ++ gs)).all (· ≤ reachBytes) = true := hsz0
  have hval : ∀ (j : Nat) t v, Try.f3.params[j]? = some t → args[j]? = some v → Value.okWide Try.prog W .any base t v := hval0
  have hW' := hW
  obtain ⟨p, q, hA0, hV, rfl, hfz, hnd⟩ := hW
  have hA : DataW.TrodAll enc Try.prog W 0 (fun _ => true) true Try.f3.params.toList args.toList ds p := hA0
  rw [Try.params3] at hA hval hsz
  obtain ⟨v0, vs0, d0, ds0, p0, q0, hargs, rfl, rfl, h0, r0⟩ := trodAll_cons hA
  obtain ⟨v1, vs1, d1, ds1, p1, q1, rfl, rfl, rfl, h1, r1⟩ := trodAll_cons r0
  obtain ⟨rfl, rfl, rfl⟩ := trodAll_nil r1
  obtain rfl : args = #[v0, v1] := by cases args; simp_all
  obtain ⟨rfl, rfl⟩ := trodVars_none hV
  have k0 := h0
  have lt0 : ∀ x ∈ p0, x.block < W.heap.size := by obtain ⟨m, hm⟩ := k0; exact DataW.trod_lt m _ _ _ hm
  obtain ⟨a0, len0, cap0, rfl⟩ := okWide_slice Try.underlying22 (hval 0 22 v0 rfl rfl)
  obtain ⟨l0, ⟨A0, c0, e0, hc0, hr0⟩, g0⟩ := op_arg opens0 hsz (j := 0) (t := 22) rfl rfl k0
  obtain ⟨rfl, rfl, rfl⟩ : A0 = a0 ∧ l0.length = len0 ∧ c0 = cap0 := (fun e_ : a0 = A0 ∧ len0 = l0.length ∧ cap0 = c0 => ⟨e_.1.symm, e_.2.1.symm, e_.2.2.symm⟩) (by simpa [Value.cells] using e0)
  have k1 := h1
  have lt1 : ∀ x ∈ p1, x.block < W.heap.size := by obtain ⟨m, hm⟩ := k1; exact DataW.trod_lt m _ _ _ hm
  obtain ⟨cs1, rfl, _⟩ := okWide_struct Try.underlying25 (hval 1 25 v1 rfl rfl)
  obtain ⟨x1, K1, g1⟩ := op_arg opens1 hsz (j := 1) (t := 25) rfl rfl k1
  obtain ⟨A1_4, c1_4, e1, hc1_4, hr1_4⟩ := k25_open K1
  obtain rfl : cs1 = #[.string x1.f0, .int .i64 x1.f1, .bool x1.f2, .string x1.f3, .slice A1_4 x1.f4.length c1_4] := Array.ext' e1
  clear hA0 hval0 hsz0 hsz
  obtain ⟨k, h⟩ := Pure.StackPushes l0 x1 g0 g1
  refine (cofferlaw14_StackPushes.calls k A0 c0 l0 x1.f0 x1.f1 x1.f2 x1.f3 A1_4 c1_4 x1.f4 true W hr0 hc0 hr1_4 hc1_4 h).mono fun e W' ⟨he, bel0⟩ => ?_
  have bel : Below W.heap.size W W' := bel0
  subst he
  exact ⟨_, rfl, _, _, _, [], _, [], hW', trodAll_mk1 (shut_bool Try.underlying4 _), (trodAll_cons_mk (Below.trod laidOut (by kernel_rfl) (of_decide_eq_true (by kernel_rfl)) k0 bel lt0) (trodAll_cons_mk (Below.trod laidOut (by kernel_rfl) (of_decide_eq_true (by kernel_rfl)) k1 bel lt1) trodAll_mk0)), rfl, bel.frame _, fun h => by cases h⟩
theorem over : Rows.stackPushesRow.holds Try.pinned (OpenSpec.ofChange Rows.stackPushesSpec) :=
  OpenClaim.holds_of_wide 3 Try.f3 rfl rfl rfl rfl rfl rfl rfl ⟨rfl, rfl, rfl, rfl, rfl⟩ rfl rfl rfl rfl rfl (by kernel_rfl) Try.func3 (by kernel_rfl)
    (of_decide_eq_true (by kernel_rfl)) (by unfold Func.isWrapper; first | (rw [if_pos (by decide +kernel)]; kernel_rfl) | (rw [if_neg (by decide +kernel)]; exact ⟨rfl, rfl⟩))
    (fun os started H enc _ => lifted os started H enc)
theorem proved : Rows.StackPushesSaid := over
#print axioms proved
end Go.Proofs.Ytmgiolijjheodaa.stackPushes
