-- By a program of this session (wip/xprint.py over the kit's print).
import Derived.Test.YtbohpjbcjnapfaaRows
import Derived.Test.YtbohpjbcjnapfaaPureTupleOrderUpto
import Derived.Test.YtbohpjbcjnapfaaOpensU
import Derived.WalkKit
import Derived.ProofKit
import Derived.OpenShut
import Derived.ShutString
import Derived.ChangeOld
import Derived.Below
import Derived.SizedLaws
import Derived.JoinedCond
namespace Go.Proofs.Ytbohpjbcjnapfaa.tupleOrderUpto
open Go.ChangeShapes Go.WideShapes Go.ChangeAt Go.RowKit Go.Proofs.Ytbohpjbcjnapfaa.X Go.Proofs.YtbohpjbcjnapfaaW.PrintWords Go.Proofs.YtbohpjbcjnapfaaW.PrintLast Go.Proofs.Ytbohpjbcjnapfaa.Opens Go.Proofs.Ytbohpjbcjnapfaa.OpensU
open Go.ChangeMaps (open_string shut_string)
set_option linter.unusedVariables false
set_option linter.unusedSimpArgs false
theorem own : ownKnob Try.prog.godebug = none := by kernel_rfl
theorem laidOut : laidOutB Try.prog = true := by kernel_rfl
theorem opens0 : Go.Proofs.Ytbohpjbcjnapfaa.OpensU.OpU Try.prog 22 (Kd.slice 58 k58) (fun l0 => l0.length ≤ 1048576 ∧ ∀ q_ ∈ l0, ((Lit.int .i64 q_.f0).wf = true) ∧ (q_.f1.size ≤ 1048576) ∧ ((Lit.int .i64 q_.f2).wf = true)) := opu_slice Try.underlying22 (opu_struct Try.underlying58 (opfu_cons (opu_int Try.underlying3) rfl (by kernel_rfl) (opfu_cons (opu_string Try.underlying9) rfl (by kernel_rfl) (opfu_one (opu_int Try.underlying2) rfl (by kernel_rfl)) rfl) rfl) (by kernel_rfl) (fun x : S58 => (x.f0, x.f1, x.f2)) (fun p => ⟨p.1, p.2.1, p.2.2⟩) (fun _ => rfl)) (by kernel_rfl)
theorem opens1 : Go.Proofs.Ytbohpjbcjnapfaa.OpensU.OpU Try.prog 22 (Kd.slice 58 k58) (fun l1 => l1.length ≤ 1048576 ∧ ∀ q_ ∈ l1, ((Lit.int .i64 q_.f0).wf = true) ∧ (q_.f1.size ≤ 1048576) ∧ ((Lit.int .i64 q_.f2).wf = true)) := opu_slice Try.underlying22 (opu_struct Try.underlying58 (opfu_cons (opu_int Try.underlying3) rfl (by kernel_rfl) (opfu_cons (opu_string Try.underlying9) rfl (by kernel_rfl) (opfu_one (opu_int Try.underlying2) rfl (by kernel_rfl)) rfl) rfl) (by kernel_rfl) (fun x : S58 => (x.f0, x.f1, x.f2)) (fun p => ⟨p.1, p.2.1, p.2.2⟩) (fun _ => rfl)) (by kernel_rfl)
theorem opens2 : Go.Proofs.Ytbohpjbcjnapfaa.OpensU.OpU Try.prog 22 (Kd.slice 58 k58) (fun l2 => l2.length ≤ 1048576 ∧ ∀ q_ ∈ l2, ((Lit.int .i64 q_.f0).wf = true) ∧ (q_.f1.size ≤ 1048576) ∧ ((Lit.int .i64 q_.f2).wf = true)) := opu_slice Try.underlying22 (opu_struct Try.underlying58 (opfu_cons (opu_int Try.underlying3) rfl (by kernel_rfl) (opfu_cons (opu_string Try.underlying9) rfl (by kernel_rfl) (opfu_one (opu_int Try.underlying2) rfl (by kernel_rfl)) rfl) rfl) (by kernel_rfl) (fun x : S58 => (x.f0, x.f1, x.f2)) (fun p => ⟨p.1, p.2.1, p.2.2⟩) (fun _ => rfl)) (by kernel_rfl)
set_option maxRecDepth 100000 in
theorem lifted (os : Os) (started : os.Started) (H : Type) (enc : TypeId × Value → H) (F : Stop.Interp) :
    ReturnsInHanded {} Try.checked os 5 .any ((Rows.OpenSpec.upto Rows.tupleOrderSpec).pre6 enc Try.prog Try.f5 Rows.tupleOrderUptoRow.domain false) (((Rows.OpenSpec.upto Rows.tupleOrderSpec).at F).post enc Try.prog Try.f5 false true false false) := by
  refine returnsInHanded_of_cond (C := Try.checked) (s := Rows.OpenSpec.upto Rows.tupleOrderSpec) (k := Rows.uptoSmall) rfl own started (by kernel_rfl) Try.func5
    (OpenSpec.witness (enc := enc) (C := Try.checked) (s := Rows.OpenSpec.upto Rows.tupleOrderSpec) (k := Rows.uptoSmall) rfl false ⟨#[], #[.slice none 0 0, .slice none 0 0, .slice none 0 0], []⟩ 8 (by kernel_rfl) (by kernel_rfl) (by kernel_rfl)
      (x := ([.nil, .nil, .nil], [], [])) (by kernel_rfl) rfl (by kernel_rfl)) ?_
  intro W base args ds gs before hval0 hW hcnd hk0 _
  have hval : ∀ (j : Nat) t v, Try.f5.params[j]? = some t → args[j]? = some v → Value.okWide Try.prog W .any base t v := hval0
  have hW' := hW
  obtain ⟨p, q, hA0, hV, rfl, hfz, hnd⟩ := hW
  have hA : DataW.TrodAll enc Try.prog W 0 (fun _ => true) true Try.f5.params.toList args.toList ds p := hA0
  rw [Try.params5] at hA hval
  obtain ⟨v0, vs0, d0, ds0, p0, q0, hargs, rfl, rfl, h0, r0⟩ := trodAll_cons hA
  obtain ⟨v1, vs1, d1, ds1, p1, q1, rfl, rfl, rfl, h1, r1⟩ := trodAll_cons r0
  obtain ⟨v2, vs2, d2, ds2, p2, q2, rfl, rfl, rfl, h2, r2⟩ := trodAll_cons r1
  obtain ⟨rfl, rfl, rfl⟩ := trodAll_nil r2
  obtain rfl : args = #[v0, v1, v2] := by cases args; simp_all
  obtain ⟨rfl, rfl⟩ := trodVars_none hV
  have b0 := small hk0 (d := d0) (by simp)
  have k0 := h0
  have lt0 : ∀ x ∈ p0, x.block < W.heap.size := by obtain ⟨m, hm⟩ := k0; exact DataW.trod_lt m _ _ _ hm
  obtain ⟨a0, len0, cap0, rfl⟩ := okWide_slice Try.underlying22 (hval 0 22 v0 rfl rfl)
  obtain ⟨l0, ⟨A0, c0, e0, hc0, hr0⟩, g0⟩ := opu_arg opens0 b0 k0
  obtain ⟨rfl, rfl, rfl⟩ : A0 = a0 ∧ l0.length = len0 ∧ c0 = cap0 := (fun e_ : a0 = A0 ∧ len0 = l0.length ∧ cap0 = c0 => ⟨e_.1.symm, e_.2.1.symm, e_.2.2.symm⟩) (by simpa [Value.cells] using e0)
  have b1 := small hk0 (d := d1) (by simp)
  have k1 := h1
  have lt1 : ∀ x ∈ p1, x.block < W.heap.size := by obtain ⟨m, hm⟩ := k1; exact DataW.trod_lt m _ _ _ hm
  obtain ⟨a1, len1, cap1, rfl⟩ := okWide_slice Try.underlying22 (hval 1 22 v1 rfl rfl)
  obtain ⟨l1, ⟨A1, c1, e1, hc1, hr1⟩, g1⟩ := opu_arg opens1 b1 k1
  obtain ⟨rfl, rfl, rfl⟩ : A1 = a1 ∧ l1.length = len1 ∧ c1 = cap1 := (fun e_ : a1 = A1 ∧ len1 = l1.length ∧ cap1 = c1 => ⟨e_.1.symm, e_.2.1.symm, e_.2.2.symm⟩) (by simpa [Value.cells] using e1)
  have b2 := small hk0 (d := d2) (by simp)
  have k2 := h2
  have lt2 : ∀ x ∈ p2, x.block < W.heap.size := by obtain ⟨m, hm⟩ := k2; exact DataW.trod_lt m _ _ _ hm
  obtain ⟨a2, len2, cap2, rfl⟩ := okWide_slice Try.underlying22 (hval 2 22 v2 rfl rfl)
  obtain ⟨l2, ⟨A2, c2, e2, hc2, hr2⟩, g2⟩ := opu_arg opens2 b2 k2
  obtain ⟨rfl, rfl, rfl⟩ : A2 = a2 ∧ l2.length = len2 ∧ c2 = cap2 := (fun e_ : a2 = A2 ∧ len2 = l2.length ∧ cap2 = c2 => ⟨e_.1.symm, e_.2.1.symm, e_.2.2.symm⟩) (by simpa [Value.cells] using e2)
  clear hA0 hval0
  obtain ⟨k, L, s, hh, p0_, p1_, p2_, hs, hp⟩ := Pure.TupleOrderUpto l0 l1 l2 g0 g1 g2
  refine (order_walk k A0 c0 l0 A1 c1 l1 A2 c2 l2 W hr0 hc0 hr1 hc1 hr2 hc2 L s hh p0_ p1_ p2_ hs hp).mono fun e W' ⟨he, bel0⟩ => ?_
  have bel : Below W.heap.size W W' := bel0
  subst he
  exact ⟨_, rfl, _, _, _, [], _, [], hW', trodAll_mk1 (shut_bool Try.underlying4 _), (trodAll_cons_mk (Below.trod laidOut (by kernel_rfl) (of_decide_eq_true (by kernel_rfl)) k0 bel lt0) (trodAll_cons_mk (Below.trod laidOut (by kernel_rfl) (of_decide_eq_true (by kernel_rfl)) k1 bel lt1) (trodAll_cons_mk (Below.trod laidOut (by kernel_rfl) (of_decide_eq_true (by kernel_rfl)) k2 bel lt2) trodAll_mk0))), rfl, bel.frame _, fun h => by cases h⟩
theorem proved : Rows.TupleOrderUptoSaid :=
  OpenClaim.holds_of_cond 5 Try.f5 rfl rfl rfl rfl rfl rfl rfl ⟨rfl, rfl, rfl, rfl, rfl⟩ rfl rfl rfl rfl rfl (by kernel_rfl) Try.func5 (by kernel_rfl)
    (of_decide_eq_true (by kernel_rfl)) (by unfold Func.isWrapper; first | (rw [if_pos (by decide +kernel)]; kernel_rfl) | (rw [if_neg (by decide +kernel)]; exact ⟨rfl, rfl⟩))
    (fun os started H enc _ F => lifted os started H enc F)
#print axioms proved
end Go.Proofs.Ytbohpjbcjnapfaa.tupleOrderUpto
