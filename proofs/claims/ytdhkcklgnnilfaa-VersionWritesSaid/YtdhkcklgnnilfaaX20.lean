-- By a program of this session (wip/xprint.py over the kit's print).
import Derived.Test.YtdhkcklgnnilfaaX0
import Derived.Test.YtdhkcklgnnilfaaX19
namespace Go.Proofs.Ytdhkcklgnnilfaa.X
open Go.RowKit Go.Proofs.YtdhkcklgnnilfaaW.PrintWords Go.Proofs.YtdhkcklgnnilfaaW.PrintLast Go.Proofs.YtdhkcklgnnilfaaW.PrintMore
attribute [local go_sem] Go.Proofs.Ytdhkcklgnnilfaa.Z.leq_string Go.Proofs.Ytdhkcklgnnilfaa.Z.gtr_string Go.Proofs.Ytdhkcklgnnilfaa.Z.geq_string   -- for this text's walks alone
set_option linter.unusedVariables false
set_option linter.unusedSimpArgs false

/-! ### version_reader_number: function 21 -/
def vfold (s : ByteArray) : Nat → Int
  | 0 => 0
  | m + 1 => Go.bits .or .i64 (wrap64 (vfold s m * 256)) (bt s m)
def version_reader_number.f (s0_0 : ByteArray) (s0_1 : Bool) (a1 : Int) : Option (Int × ByteArray × Bool) :=
  if a1 ≤ 8 then (version_reader_text.f s0_0 s0_1 a1).bind fun q => some (vfold q.1 q.1.size, q.2.1, q.2.2) else none
theorem version_reader_text_size {s0_0 : ByteArray} {s0_1 : Bool} {a1 : Int} {q} (h : version_reader_text.f s0_0 s0_1 a1 = some q) : q.1.size ≤ a1.toNat := by
  unfold version_reader_text.f at h
  repeat' split at h
  all_goals first | (cases h; done) | (obtain rfl := Option.some.inj h; first | (simp [ByteArray.size_extract]; omega) | (show (0 : Nat) ≤ _; omega))
set_option maxHeartbeats 8000000 in
set_option maxRecDepth 100000 in
theorem version_reader_number.calls (g : Nat) (s0_0 : ByteArray) (s0_1 : Bool) (a1 : Int) (r1 : Int) (r2 : ByteArray) (r3 : Bool) (w0 w : World) (hI : IsS47 w0 w g s0_0 s0_1) (hB : Below w0.heap.size w0 w) (h : version_reader_number.f s0_0 s0_1 a1 = some (r1, r2, r3)) :
    Calls Try.prog 21 #[.pointer (some ⟨g, 0, none⟩), .int .i64 a1] w fun e w' => e = .returned (.int .i64 r1) ∧ IsS47 w0 w' g r2 r3 ∧ Below w0.heap.size w0 w' ∧ KeepBut w w' g none := by
  unfold version_reader_number.f at h
  have h8 : a1 ≤ 8 := by
    by_cases hz : a1 ≤ 8
    · exact hz
    · rw [if_neg hz] at h; simp at h
  rw [if_pos h8] at h
  have HI0 := Aside0.mk hI
  have HB := Aside0.mk hB
  clear hI hB
  replace h := Option.bind_eq_some_iff.mp h
  obtain ⟨⟨t, t225, t226⟩, A30, H⟩ := h
  obtain ⟨rfl, rfl, rfl⟩ := (by simpa using H : vfold t t.size = r1 ∧ t225 = r2 ∧ t226 = r3)
  clear H
  have hsz := version_reader_text_size A30
  replace hsz : t.size ≤ 8 := by simp only at hsz; omega
  have A3 := Aside0.mk A30
  clear A30 h8
  have kb := fun W => print_bytes (P := Try.prog) 9 38 5 Try.underlying9 Try.underlying38 Try.underlying5 t W
  go_enter Try.func21, Try.ntmps21
  go_wp2_with (first | ((with_reducible refine gate_callee (f := 22) rfl ?_); refine goesL_ (some 10) rfl rfl Try.func22 (by kernel_rfl) rfl #[.pointer (some ⟨g, 0, none⟩), .int .i64 a1] rfl (by (try simp only [List.map_toArray, List.map_cons, List.map_nil]); first | done | rfl | (simp only [List.length_drop, List.length_take]; rfl)) ?_; (with_reducible refine (version_reader_text.calls g s0_0 s0_1 a1 t t225 t226 w0 _ HI0.out HB.out A3.out).mono ?_); rintro e w4 ⟨rfl, hi, hb, hk⟩; refine ⟨_, rfl, ?_⟩; have HI4 := Aside0.mk hi; have HB4 := Aside0.mk hb; have HK4 := Aside0.mk hk; clear hi hb hk))
  have HI := Aside0.mk (HI4.out.below (bytes_below (Below.refl _ w4) (Nat.le_refl _) 5 t))
  have HB' := Aside0.mk (bytes_below HB4.out HB4.out.size 5 t)
  have HK := Aside0.mk (HK4.out.trans (KeepBut.of_below (bytes_below (Below.refl _ w4) (Nat.le_refl _) 5 t) g none) (.inl rfl))
  have hcell : ∀ j : Nat, (h : j < t.size) → (Lib.bytesWorld w4 5 t).cell? ⟨w4.heap.size, j, none⟩ = some (.int .u8 ((t[j]'h).toNat : Int)) := by
    intro j hj
    rw [Lib.bytesWorld_cell w4 5 t j hj]
    have h' : j < t.data.toList.length := by rw [data_length]; exact hj
    simp [List.getD_eq_getElem?_getD, List.getElem?_eq_getElem h']
    rfl
  have HC := Aside0.mk hcell
  generalize Lib.bytesWorld w4 5 t = W at *
  generalize w4.heap.size = g4 at *
  clear hcell kb
  go_loop [5, 13] (fun v x => ∃ m : Nat, m ≤ t.size ∧ x = .int .i64 m ∧ v = .int .i64 (vfold t m)) (fun _ x => t.size - (intOf x).toNat)
  case atStart => exact ⟨0, by omega, rfl, rfl⟩
  case round =>
    obtain ⟨m, hm, rfl, rfl⟩ := hrel
    by_cases hlt : m < t.size
    · have hc := HC.out m hlt
      have hs : vfold t (m + 1) = Go.bits .or .i64 (wrap64 (vfold t m * 256)) (wrap64 ((t[m]'hlt).toNat : Int)) := by
        show Go.bits .or .i64 _ (bt t m) = _
        have hb : bt t m = ((t[m]'hlt).toNat : Int) := by rw [← bt_at t m (by simpa using hlt)]; rfl
        have hr := (t[m]'hlt).toNat_lt
        rw [hb]; congr 1
        simp [wrap64, IntKind.wrap]; omega
      have HS := Aside0.mk hs
      clear hs
      go_wp2
      go_round
      case rel => exact ⟨m + 1, by omega, by go_num, by rw [HS.out]⟩
      case measure => simp [intOf]; omega
    · obtain rfl : m = t.size := by omega
      go_wp2
      go_ret
      exact ⟨rfl, HI.out, HB'.out, HK.out⟩

end Go.Proofs.Ytdhkcklgnnilfaa.X
