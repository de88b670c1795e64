/- VersionReads: Read of every text tells what the document's Read tells. No condition beside the row's own. -/
import Derived.Test.YtdhkcklgnnilfaaVerRef
import Derived.Test.YtdhkcklgnnilfaaVerSame
import Derived.Test.YtdhkcklgnnilfaaX28
namespace Go.Proofs.Ytdhkcklgnnilfaa.Pure
set_option linter.unusedVariables false
set_option linter.unusedSimpArgs false
open Go.RowKit Go.Proofs.Ytdhkcklgnnilfaa.X Go.Proofs.Ytdhkcklgnnilfaa.Link Go.Proofs.YtdhkcklgnnilfaaW.PrintWords Go.Proofs.YtdhkcklgnnilfaaW.PrintLast

theorem first_true : cofferlaw13_first.f 40 = some true := by decide +kernel
theorem first_any (k : Nat) (hk : 40 ≤ k) : cofferlaw13_first.f k = some true := at_rounds (fun k => cofferlaw13_first.mono k) hk first_true
theorem ref_read_back (a : ByteArray) (q : Int) (m : Bool) (d : ByteArray) (l : List S31) (he : errV a q m d l = 0) (k : Nat) (hk : 2000 ≤ k) : cofferref13_Read.f k (strOfNums (encV a q m d l)) = some (a, q, m, d, l, 0) := by
  have := ref_read_enc a q m d l (⟨#[]⟩ : ByteArray) he k hk
  rw [son_nil_app] at this
  rw [this]; unfold fin
  rw [if_neg (by decide), if_pos he, if_pos rfl]
/-- The two tell alike. -/
theorem reads_alike (b : ByteArray) (k : Nat) (hk : 2000 ≤ k) : ∃ o, version_Read.f k b = some o ∧ cofferref13_Read.f k b = some o ∧ Link.Good b o := by
  obtain ⟨o, ho, hg⟩ := read_any b k (by omega)
  obtain ⟨p, hp, hq⟩ := ref_read_any b k (by omega)
  have he : o = p := by
    rcases hg with rfl | ⟨a, q, m, d, l, rfl, he, hx⟩
    · rcases hq with rfl | ⟨a, q, m, d, l, rfl, he, hx⟩
      · rfl
      · rw [← hx, read_back a q m d l he k (by omega)] at ho
        exact (Option.some.inj ho).symm
    · rw [← hx, ref_read_back a q m d l he k (by omega)] at hp
      exact (Option.some.inj hp)
  exact ⟨o, ho, he ▸ hp, hg⟩
theorem good_len {b : ByteArray} {o : Out} (h : Link.Good b o) : o.2.2.2.2.1.length ≤ 8 := by
  rcases h with rfl | ⟨a, q, m, d, l, rfl, he, hx⟩
  · simp [nul]
  · exact (metaOk_sizes (errV_zero he).2.2.2.2.2.1).1
theorem VersionReads : cofferlaw13_VersionReads.Pure := by
  intro b hb
  refine ⟨2000, ?_⟩
  obtain ⟨o, h1, h2, hg⟩ := reads_alike b 2000 (by omega)
  have hl := good_len hg
  unfold cofferlaw13_VersionReads.f
  rw [h1, h2]
  simp only [Option.bind_some]
  rw [if_pos trivial, same_self _ _ _ _ _ (by omega) 2000 (by omega)]
  simp only [Option.bind_some]
  rw [if_pos trivial, first_any 2000 (by omega)]
  rfl
end Go.Proofs.Ytdhkcklgnnilfaa.Pure
