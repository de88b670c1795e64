/- PageFits: a page that is as full as may be, and one entry more, splits into two that fit, one behind the other the list; each part can be written. -/
import Derived.Test.YtffgodpmmipnkaaStPageFits
import Derived.Test.YtffgodpmmipnkaaPg
namespace Go.Proofs.Ytffgodpmmipnkaa.Pure
set_option linter.unusedVariables false
set_option linter.unusedSimpArgs false
open Go.RowKit Go.Proofs.Ytffgodpmmipnkaa.X Go.Proofs.Ytffgodpmmipnkaa.Pg Go.Proofs.YtffgodpmmipnkaaW.PrintWords Go.Proofs.YtffgodpmmipnkaaW.PrintLast

theorem fits_j0 (x : Int) {u v : List S37} (hu : Pg.Good u) (hv : Pg.Good v) (k : Nat) (hk : 2000 < k) : cofferlaw10_PageFits.j0 k x u v false = some true := by
  obtain ⟨k, rfl⟩ : ∃ q, k = q + 1 := ⟨k - 1, by omega⟩
  have nu := good_len hu
  have nv := good_len hv
  have m0 := and_mask x 255 (by omega)
  have ou : Ok (Go.bits .and .i64 x 255) 0 u := ⟨m0, by omega, hu.2.1, hu.2.2, hu.1⟩
  have ov : Ok (Go.bits .and .i64 x 255) 0 v := ⟨m0, by omega, hv.2.1, hv.2.2, hv.1⟩
  simp only [cofferlaw10_PageFits.j0]
  rw [if_neg (by decide), write_eq _ _ u (by omega) k (by omega), wr_ok ou, Option.bind_some, write_eq _ _ v (by omega) k (by omega), wr_ok ov, Option.bind_some]
  rfl
theorem PageFits : cofferlaw10_PageFits.Pure := by
  intro l0 x1 a2 hl0 _ _
  refine ⟨30000, ?_⟩
  obtain ⟨l, hf, hg⟩ := full_eq l0 (by omega) 30000 (by omega)
  obtain ⟨u, v, hc, hL⟩ := cut_eq x1.f0 x1.f1
  have hn := good_len hg
  have hpt := put_tot l u v
  have hsz := sz_short hL
  have ht := hg.2.2
  have hpl := put_len l u v
  have hS : Srt (putL l u v) := srt_put hg.1 u v
  have hs : Short (putL l u v) := by
    intro e he
    rcases mem_put_any u v e he with rfl | h
    · exact hL
    · exact hg.2.1 e h
  have hap := split_app (putL l u v)
  obtain ⟨f1, f2⟩ := split_fits (putL l u v) hs (by omega) (fun _ _ => trivial)
  have g1 : Pg.Good (splitL (putL l u v)).1 := by
    refine ⟨?_, ?_, f1⟩
    · have : Srt ((splitL (putL l u v)).1 ++ (splitL (putL l u v)).2) := by rw [hap]; exact hS
      exact (List.pairwise_append.1 this).1
    · intro e he
      exact hs e (by rw [← hap]; exact List.mem_append_left _ he)
  have g2 : Pg.Good (splitL (putL l u v)).2 := by
    refine ⟨?_, ?_, f2⟩
    · have : Srt ((splitL (putL l u v)).1 ++ (splitL (putL l u v)).2) := by rw [hap]; exact hS
      exact (List.pairwise_append.1 this).2.1
    · intro e he
      exact hs e (by rw [← hap]; exact List.mem_append_right _ he)
  have n1 := good_len g1
  have n2 := good_len g2
  have hsome := split_some (putL l u v)
  unfold cofferlaw10_PageFits.f
  rw [first_true 30000 (by omega), Option.bind_some, if_pos rfl, hf, Option.bind_some, hc, Option.bind_some, put_eq hg.1 u v (by omega) 30000 (by omega), Option.bind_some, split_eq (putL l u v) (by omega) (by omega) 30000 (by omega)]
  generalize splitL (putL l u v) = s at *
  simp only [Option.bind_some, List.length_nil, Nat.zero_add, List.nil_append]
  have t1 := tot0 s.1
  have t2 := tot0 s.2
  rw [if_pos (by omega), if_pos (by omega), hap, same_self _ (by omega) 30000 (by omega), Option.bind_some, if_pos rfl, size_eq s.1 (by omega) 30000 (by omega), Option.bind_some, wrap_mid t1 (by omega), if_neg (by omega), size_eq s.2 (by omega) 30000 (by omega), Option.bind_some, wrap_mid t2 (by omega), if_neg (by omega)]
  by_cases h1 : ((putL l u v).length : Int) > 1
  · obtain ⟨h2, h3⟩ := hsome (by omega)
    rw [if_pos h1, if_neg (by omega), show ((s.2.length : Int) == 0) = false from beq_eq_false_iff_ne.2 (by omega)]
    exact fits_j0 a2 g1 g2 30000 (by omega)
  · rw [if_neg h1]
    exact fits_j0 a2 g1 g2 30000 (by omega)
end Go.Proofs.Ytffgodpmmipnkaa.Pure
