/- What lent leaves behind the row that it hands back. -/
import Derived.Test.YtffgodpmmipnkaaXA
namespace Go.Proofs.Ytffgodpmmipnkaa.X
open Go.RowKit Go.Proofs.YtffgodpmmipnkaaW.PrintWords Go.Proofs.YtffgodpmmipnkaaW.PrintLast Go.Proofs.YtffgodpmmipnkaaW.PrintMore
attribute [local go_sem] max2_int min2_int max_two min_two max_three min_three max_four min_four Go.Proofs.Ytffgodpmmipnkaa.Z.leq_string Go.Proofs.Ytffgodpmmipnkaa.Z.gtr_string Go.Proofs.Ytffgodpmmipnkaa.Z.geq_string   -- for this text's walks alone
set_option linter.unusedVariables false
set_option linter.unusedSimpArgs false

open Go.Proofs.Ytffgodpmmipnkaa
def MARK : S37 := ⟨(⟨#[109, 97, 114, 107]⟩ : ByteArray), (⟨#[]⟩ : ByteArray)⟩
set_option maxHeartbeats 8000000 in
set_option maxRecDepth 100000 in
theorem cofferlaw10_lent.callsS (A0 : Option Addr) (c0 : Nat) (l0 : List (S37)) (r : List (S37)) (w : World) (hr0 : Kd.C k37 w A0 l0.length l0) (hc0 : l0.length ≤ c0) (h : cofferlaw10_lent.f l0 = some r) :
    Calls Try.prog 9 #[.slice A0 l0.length c0] w fun e w' => ∃ v0_ : Value, e = .returned (v0_) ∧ Kd.R k37 37 w' w.heap.size (fun _ => True) v0_ r ∧ Below w.heap.size w w' ∧ Z.Spare k37 37 w' w.heap.size v0_ r MARK := by
  have hu37 := Try.underlying37
  have HR0 := Aside0.mk hr0
  have HC0 := Aside0.mk hc0
  clear hr0 hc0
  have HB := Aside0.mk (Below.refl w.heap.size w)
  have H : (if ([] : List (S37)).length + l0.length < 4398046511104 then ((some (([] : List (S37)) ++ l0 : List (S37))).bind fun y106 => (if y106.length < 4398046511104 then ((some (y106 ++ [(⟨(⟨#[109, 97, 114, 107]⟩ : ByteArray), (⟨#[]⟩ : ByteArray)⟩ : S37)] : List (S37))).bind fun y109 => (if 0 ≤ (l0.length : Int) then (if (l0.length : Int) ≤ (y109.length : Int) then (some (y109.take ((l0.length : Int) : Int).toNat)) else (none)) else (none))) else (none))) else (none)) = some r := h
  clear h
  by_cases c2 : ([] : List (S37)).length + l0.length < 4398046511104
  · rw [if_pos c2] at H
    have LMc2 := Aside0.mk c2
    clear c2
    obtain ⟨y106, hy106⟩ : ∃ y_ : List (S37), y_ = (([] : List (S37)) ++ l0) := ⟨_, rfl⟩
    replace H : (if y106.length < 4398046511104 then ((some (y106 ++ [(⟨(⟨#[109, 97, 114, 107]⟩ : ByteArray), (⟨#[]⟩ : ByteArray)⟩ : S37)] : List (S37))).bind fun y109 => (if 0 ≤ (l0.length : Int) then (if (l0.length : Int) ≤ (y109.length : Int) then (some (y109.take ((l0.length : Int) : Int).toNat)) else (none)) else (none))) else (none)) = some r := by first | (rw [hy106]; with_reducible exact H) | (have H2_ := (Option.bind_some _ _).symm.trans H; rw [hy106]; with_reducible exact H2_) | (have H2_ := (Option.bind_some _ _).symm.trans H; with_reducible exact H2_) | with_reducible exact H | (rw [hy106]; exact H) | exact H
    have Ny106 := Aside0.mk hy106
    clear hy106
    by_cases c3 : y106.length < 4398046511104
    · rw [if_pos c3] at H
      have LMc3 := Aside0.mk c3
      clear c3
      obtain ⟨y109, hy109⟩ : ∃ y_ : List (S37), y_ = (y106 ++ [(⟨(⟨#[109, 97, 114, 107]⟩ : ByteArray), (⟨#[]⟩ : ByteArray)⟩ : S37)]) := ⟨_, rfl⟩
      replace H : (if 0 ≤ (l0.length : Int) then (if (l0.length : Int) ≤ (y109.length : Int) then (some (y109.take ((l0.length : Int) : Int).toNat)) else (none)) else (none)) = some r := by first | (rw [hy109]; with_reducible exact H) | (have H2_ := (Option.bind_some _ _).symm.trans H; rw [hy109]; with_reducible exact H2_) | (have H2_ := (Option.bind_some _ _).symm.trans H; with_reducible exact H2_) | with_reducible exact H | (rw [hy109]; exact H) | exact H
      have Ny109 := Aside0.mk hy109
      clear hy109
      by_cases c4 : 0 ≤ (l0.length : Int)
      · rw [if_pos c4] at H
        have c4b0 := eq_true c4
        have c4b1 : decide (0 ≤ (l0.length : Int)) = true := decide_eq_true c4
        clear c4
        by_cases c5 : (l0.length : Int) ≤ (y109.length : Int)
        · rw [if_pos c5] at H
          have c5b0 := eq_true c5
          have c5b1 : decide ((l0.length : Int) ≤ (y109.length : Int)) = true := decide_eq_true c5
          clear c5
          obtain ⟨y112, hy112⟩ : ∃ y_ : List (S37), y_ = (y109.take ((l0.length : Int) : Int).toNat) := ⟨_, rfl⟩
          replace H : (some y112) = some r := by first | (rw [hy112]; with_reducible exact H) | (have H2_ := (Option.bind_some _ _).symm.trans H; rw [hy112]; with_reducible exact H2_) | (have H2_ := (Option.bind_some _ _).symm.trans H; with_reducible exact H2_) | with_reducible exact H | (rw [hy112]; exact H) | exact H
          have Ny112 := Aside0.mk hy112
          clear hy112
          obtain rfl := Option.some.inj H
          go_enter Try.func9, Try.ntmps9
          go_wp2_with (first | ((with_reducible refine gate_builtin (b := .append) (xs := #[.tmp 4, .tmp 5]) rfl ?_); at_builtin; refine Kd.R_append_rows k37 (w0 := w) w.heap.size rfl (.tmp 4) (.tmp 5) 22 37 (.agg #[(.string ⟨#[]⟩), (.string ⟨#[]⟩)]) 32 rfl Try.underlying22 info37 rfl (by decide) (by omega) (.slice none 0 0) ([] : List (S37)) l0 _ _ _ (fun _ => True) (fun _ => False) rfl rfl ?aO ?aR (fun _ _ h => h) (fun _ h => h.elim) ?aF ?aB ?aS ?aL ?_; (case aR => repeat (first | exact HR0.out | (with_reducible refine Kd.C_alloc ?_ _) | (with_reducible refine Kd.C_drewN ?_ _) | (with_reducible refine Kd.C_drew ?_))); (case aB => exact (by repeat (first | (with_reducible first | exact HB.out | apply below_alloc | apply pw_below_drewN | apply below_drew1) | exact HB.out))); (case aF => exact (fun _ _ => trivial)); (case aO => exact ((Kd.R_nil _ _ _ _ (fun _ => True)))); (case aS => exact (below_size (by repeat (first | (with_reducible first | exact HB.out | apply below_alloc | apply pw_below_drewN | apply below_drew1) | exact HB.out)))); (case aL => have := LMc2.out; omega); intro v107 w6 ho hb hg hat; rw [← Ny106.out] at ho; have n0_ := Aside0.mk (hb); have n1_ := Aside0.mk (ho); clear HB; have HB := n0_; have HO108 := n1_; clear n0_ n1_; clear ho hb hg hat) | ((with_reducible refine gate_builtin (b := .append) (xs := #[.tmp 7, .tmp 9]) rfl ?_); at_builtin; refine Kd.R_append k37 (w0 := w) w.heap.size rfl (.tmp 7) (.tmp 9) 22 37 (.agg #[(.string ⟨#[]⟩), (.string ⟨#[]⟩)]) 32 rfl Try.underlying22 info37 rfl (by decide) (by omega) v107 y106 (⟨(⟨#[109, 97, 114, 107]⟩ : ByteArray), (⟨#[]⟩ : ByteArray)⟩ : S37) [.string (⟨#[109, 97, 114, 107]⟩ : ByteArray), .string (⟨#[]⟩ : ByteArray)] (fun _ => True) (fun _ => False) rfl rfl ?aP (fun _ hk => hk.elim) ?aF ?aO ?aB ?aS ?aL ?_; (case aP => exact k37_mkM _ _ _ (⟨(⟨#[109, 97, 114, 107]⟩ : ByteArray), (⟨#[]⟩ : ByteArray)⟩ : S37)); (case aB => exact (by repeat (first | (with_reducible first | exact HB.out | apply below_alloc | apply pw_below_drewN | apply below_drew1) | exact HB.out))); (case aF => exact (fun _ _ => trivial)); (case aO => exact (by (with_reducible repeat (first | apply Kd.R_alloc | apply Kd.R_drewN | apply Kd.R_drew)); exact HO108.out)); (case aS => exact (below_size (by repeat (first | (with_reducible first | exact HB.out | apply below_alloc | apply pw_below_drewN | apply below_drew1) | exact HB.out)))); (case aL => have := LMc3.out; omega); intro v110 w7 ho hb hg hat; rw [← Ny109.out] at ho; have n0_ := Aside0.mk (hb); have n1_ := Aside0.mk (ho); clear HB; clear HO108; have HB := n0_; have HO111 := n1_; clear n0_ n1_; clear ho hb hg hat; obtain ⟨Ao8, co8, eo8⟩ := Kd.R_slice HO111.out; subst eo8; have q9 : ((l0.length : Int) : Int) ≤ ((y109.length : Int) : Int) := of_decide_eq_true (by first | (with_reducible assumption) | assumption); obtain ⟨i09, hi09, _, hsz9, _⟩ := info_parts info37; have hcut9 := cut_to (P := Try.prog) 22 37 .i64 Try.underlying22 hi09 Ao8 y109.length co8 (l0.length : Int) (of_decide_eq_true (by first | (with_reducible assumption) | assumption)) q9 (Kd.R_reads' HO111.out).2.1; have hr9 := Kd.R_take (m := ((l0.length : Int) : Int).toNat) HO111.out (by omega); have hy9 : y112.length = ((l0.length : Int) : Int).toNat := (by rw [Ny112.out, List.length_take]; omega); rw [← Ny112.out] at hr9; rw [← hy9] at hr9 hcut9; clear hy9 hi09 hsz9; have HO114 := Aside0.mk hr9; clear hr9; replace q9 := eq_true q9))
          go_ret
          exact ⟨_, by first | rfl | (simp [errW_none, errW_some] <;> rfl) | (simp [*, errW_none, errW_some] <;> rfl), by (with_reducible repeat (first | apply Kd.R_alloc | apply Kd.R_drewN | apply Kd.R_drew)); exact HO114.out, by repeat (first | (with_reducible first | exact HB.out | apply below_alloc | apply pw_below_drewN | apply below_drew1) | exact HB.out), ⟨_, _, rfl, by
            have e1 : y109 = y112 ++ [MARK] := by rw [Ny112.out, Ny109.out, Ny106.out, Int.toNat_natCast, List.nil_append, List.take_left]; rfl
            rw [← e1]
            exact HO111.out⟩⟩
        · rw [if_neg c5] at H
          exact absurd H (by simp)
      · rw [if_neg c4] at H
        exact absurd H (by simp)
    · rw [if_neg c3] at H
      exact absurd H (by simp)
  · rw [if_neg c2] at H
    exact absurd H (by simp)

end Go.Proofs.Ytffgodpmmipnkaa.X
