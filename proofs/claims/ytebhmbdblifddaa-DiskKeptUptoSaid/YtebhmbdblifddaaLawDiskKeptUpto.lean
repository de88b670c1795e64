-- By a program of this session (wip/uptorow.py).
import Derived.Test.YtebhmbdblifddaaRows
import Derived.Test.YtebhmbdblifddaaDkO
import Derived.Test.YtebhmbdblifddaaOpensU
import Derived.WalkKit
import Derived.ProofKit
import Derived.OpenShut
import Derived.ShutString
import Derived.ChangeOld
import Derived.Below
import Derived.SizedLaws
import Derived.JoinedCond
namespace Go.Proofs.Ytebhmbdblifddaa.diskKeptUpto
open Go.ChangeShapes Go.WideShapes Go.ChangeAt Go.RowKit Go.Proofs.Ytebhmbdblifddaa.X Go.Proofs.YtebhmbdblifddaaW.PrintWords Go.Proofs.YtebhmbdblifddaaW.PrintLast Go.Proofs.YtebhmbdblifddaaW.PrintMore Go.Proofs.Ytebhmbdblifddaa.Opens Go.Proofs.Ytebhmbdblifddaa.OpensU Go.Proofs.Ytebhmbdblifddaa.Dk
open Go.ChangeMaps (open_string shut_string)
set_option linter.unusedVariables false
set_option linter.unusedSimpArgs false
theorem own : ownKnob Try.prog.godebug = none := by kernel_rfl
theorem laidOut : laidOutB Try.prog = true := by kernel_rfl
theorem opP : OpU Try.prog 30 kP (fun x => (Lit.int .i64 x.1).wf = true ∧ (Lit.int .u8 x.2).wf = true) := opu_struct Try.underlying30 (opfu_cons (opu_int Try.underlying3) rfl (by kernel_rfl) (opfu_one (opu_int Try.underlying5) rfl (by kernel_rfl)) rfl) (by kernel_rfl) (fun x : Int × Int => x) (fun p => p) (fun _ => rfl)
theorem opens0 : OpU Try.prog 22 (Kd.slice 30 kP) (fun l => l.length ≤ 1048576 ∧ ∀ x ∈ l, ((Lit.int .i64 x.1).wf = true ∧ (Lit.int .u8 x.2).wf = true)) := opu_slice Try.underlying22 opP (by kernel_rfl)
theorem opens1 : OpU Try.prog 22 (Kd.slice 30 kP) (fun l => l.length ≤ 1048576 ∧ ∀ x ∈ l, ((Lit.int .i64 x.1).wf = true ∧ (Lit.int .u8 x.2).wf = true)) := opu_slice Try.underlying22 opP (by kernel_rfl)
theorem opens2 : OpU Try.prog 23 (Kd.slice 3 (Kd.int .i64)) (fun l => l.length ≤ 1048576 ∧ ∀ x ∈ l, (Lit.int .i64 x).wf = true) := opu_slice Try.underlying23 (opu_int Try.underlying3) (by kernel_rfl)
set_option maxRecDepth 100000 in
theorem lifted (os : Os) (started : os.Started) (H : Type) (enc : TypeId × Value → H) (F : Stop.Interp) :
    ReturnsInHanded {} Try.checked os 7 .any ((Rows.OpenSpec.upto Rows.diskKeptSpec).pre6 enc Try.prog Try.f7 Rows.diskKeptUptoRow.domain false) (((Rows.OpenSpec.upto Rows.diskKeptSpec).at F).post enc Try.prog Try.f7 false true false false) := by
  refine returnsInHanded_of_cond (C := Try.checked) (s := Rows.OpenSpec.upto Rows.diskKeptSpec) (k := Rows.uptoSmall) rfl own started (by kernel_rfl) Try.func7
    (OpenSpec.witness (enc := enc) (C := Try.checked) (s := Rows.OpenSpec.upto Rows.diskKeptSpec) (k := Rows.uptoSmall) rfl false ⟨#[], #[.slice none 0 0, .slice none 0 0, .slice none 0 0, .bool false], []⟩ 8 (by kernel_rfl) (by kernel_rfl) (by kernel_rfl)
      (x := ([.nil, .nil, .nil, .lit (.bool false)], [], [])) (by kernel_rfl) rfl (by kernel_rfl)) ?_
  intro W base args ds gs before hval0 hW hcnd hk0 _
  have hval : ∀ (j : Nat) t v, Try.f7.params[j]? = some t → args[j]? = some v → Value.okWide Try.prog W .any base t v := hval0
  have hW' := hW
  obtain ⟨p, q, hA0, hV, rfl, hfz, hnd⟩ := hW
  have hA : DataW.TrodAll enc Try.prog W 0 (fun _ => true) true Try.f7.params.toList args.toList ds p := hA0
  rw [Try.params7] at hA hval
  obtain ⟨v0, vs0, d0, ds0, p0, q0, hargs, rfl, rfl, h0, r0⟩ := trodAll_cons hA
  obtain ⟨v1, vs1, d1, ds1, p1, q1, rfl, rfl, rfl, h1, r1⟩ := trodAll_cons r0
  obtain ⟨v2, vs2, d2, ds2, p2, q2, rfl, rfl, rfl, h2, r2⟩ := trodAll_cons r1
  obtain ⟨v3, vs3, d3, ds3, p3, q3, rfl, rfl, rfl, h3, r3⟩ := trodAll_cons r2
  obtain ⟨rfl, rfl, rfl⟩ := trodAll_nil r3
  obtain rfl : args = #[v0, v1, v2, v3] := by cases args; simp_all
  obtain ⟨rfl, rfl⟩ := trodVars_none hV
  have b0 := small hk0 (d := d0) (by simp)
  have b1 := small hk0 (d := d1) (by simp)
  have b2 := small hk0 (d := d2) (by simp)
  have b3 := small hk0 (d := d3) (by simp)
  have k0 := h0
  have lt0 : ∀ x ∈ p0, x.block < W.heap.size := by obtain ⟨m, hm⟩ := k0; exact DataW.trod_lt m _ _ _ hm
  obtain ⟨aa0, len0, cap0, rfl⟩ := okWide_slice Try.underlying22 (hval 0 22 v0 rfl rfl)
  obtain ⟨l0, ⟨A0, c0, e0, hc0, hr0⟩, g0⟩ := opu_arg opens0 b0 k0
  obtain ⟨rfl, rfl, rfl⟩ : A0 = aa0 ∧ l0.length = len0 ∧ c0 = cap0 := (fun e_ : aa0 = A0 ∧ len0 = l0.length ∧ cap0 = c0 => ⟨e_.1.symm, e_.2.1.symm, e_.2.2.symm⟩) (by simpa [Value.cells] using e0)
  have k1 := h1
  have lt1 : ∀ x ∈ p1, x.block < W.heap.size := by obtain ⟨m, hm⟩ := k1; exact DataW.trod_lt m _ _ _ hm
  obtain ⟨aa1, len1, cap1, rfl⟩ := okWide_slice Try.underlying22 (hval 1 22 v1 rfl rfl)
  obtain ⟨l1, ⟨A1, c1, e1, hc1, hr1⟩, g1⟩ := opu_arg opens1 b1 k1
  obtain ⟨rfl, rfl, rfl⟩ : A1 = aa1 ∧ l1.length = len1 ∧ c1 = cap1 := (fun e_ : aa1 = A1 ∧ len1 = l1.length ∧ cap1 = c1 => ⟨e_.1.symm, e_.2.1.symm, e_.2.2.symm⟩) (by simpa [Value.cells] using e1)
  have k2 := h2
  have lt2 : ∀ x ∈ p2, x.block < W.heap.size := by obtain ⟨m, hm⟩ := k2; exact DataW.trod_lt m _ _ _ hm
  obtain ⟨aa2, len2, cap2, rfl⟩ := okWide_slice Try.underlying23 (hval 2 23 v2 rfl rfl)
  obtain ⟨l2, ⟨A2, c2, e2, hc2, hr2⟩, g2⟩ := opu_arg opens2 b2 k2
  obtain ⟨rfl, rfl, rfl⟩ : A2 = aa2 ∧ l2.length = len2 ∧ c2 = cap2 := (fun e_ : aa2 = A2 ∧ len2 = l2.length ∧ cap2 = c2 => ⟨e_.1.symm, e_.2.1.symm, e_.2.2.symm⟩) (by simpa [Value.cells] using e2)
  obtain ⟨a3, rfl, rfl, rfl⟩ := open_bool Try.underlying4 (hval 3 4 v3 rfl rfl) h3
  clear hA0 hval0
  refine (kept_walk A0 c0 l0 A1 c1 l1 A2 c2 l2 a3 W hr0 hr1 hr2 hc2 g0.1 g1.1 g2.1 (fun p hp => bounds_u8 (g0.2 p hp).2) (fun p hp => bounds_u8 (g1.2 p hp).2) g2.2).mono fun e W' ⟨he, bel0⟩ => ?_
  have bel : Below W.heap.size W W' := bel0
  subst he
  exact ⟨_, rfl, _, _, _, [], _, [], hW', trodAll_mk1 (shut_bool Try.underlying4 _), (trodAll_cons_mk (Below.trod laidOut (by kernel_rfl) (of_decide_eq_true (by kernel_rfl)) k0 bel lt0) (trodAll_cons_mk (Below.trod laidOut (by kernel_rfl) (of_decide_eq_true (by kernel_rfl)) k1 bel lt1) (trodAll_cons_mk (Below.trod laidOut (by kernel_rfl) (of_decide_eq_true (by kernel_rfl)) k2 bel lt2) (trodAll_cons_mk (shut_bool Try.underlying4 _) trodAll_mk0)))), rfl, bel.frame _, fun h => by cases h⟩
theorem proved : Rows.DiskKeptUptoSaid :=
  OpenClaim.holds_of_cond 7 Try.f7 rfl rfl rfl rfl rfl rfl rfl ⟨rfl, rfl, rfl, rfl, rfl⟩ rfl rfl rfl rfl rfl (by kernel_rfl) Try.func7 (by kernel_rfl)
    (of_decide_eq_true (by kernel_rfl)) (by unfold Func.isWrapper; first | (rw [if_pos (by decide +kernel)]; kernel_rfl) | (rw [if_neg (by decide +kernel)]; exact ⟨rfl, rfl⟩))
    (fun os started H enc _ F => lifted os started H enc F)
#print axioms proved
end Go.Proofs.Ytebhmbdblifddaa.diskKeptUpto
