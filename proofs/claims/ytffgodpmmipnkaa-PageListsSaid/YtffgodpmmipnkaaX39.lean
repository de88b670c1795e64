-- By a program of this session (wip/xprint.py over the kit's print).
import Derived.Test.YtffgodpmmipnkaaX0
namespace Go.Proofs.Ytffgodpmmipnkaa.X
open Go.RowKit Go.Proofs.YtffgodpmmipnkaaW.PrintWords Go.Proofs.YtffgodpmmipnkaaW.PrintLast Go.Proofs.YtffgodpmmipnkaaW.PrintMore
attribute [local go_sem] max2_int min2_int max_two min_two max_three min_three max_four min_four Go.Proofs.Ytffgodpmmipnkaa.Z.leq_string Go.Proofs.Ytffgodpmmipnkaa.Z.gtr_string Go.Proofs.Ytffgodpmmipnkaa.Z.geq_string   -- for this text's walks alone
set_option linter.unusedVariables false
set_option linter.unusedSimpArgs false

/-! ### api_Entry_43: function 43 -/
set_option maxHeartbeats 4000000 in
theorem Grow_nil (n : Nat) (w : World) (hn : n < 4398046511104) :
    Calls Try.prog 53 #[.slice none 0 0, .int .i64 (n : Int)] w fun e w' => ∃ v0_ : Value, e = .returned v0_ ∧ Kd.R k37 37 w' w.heap.size (fun _ => True) v0_ [] ∧ Below w.heap.size w w' := by
  have LM := Aside0.mk hn
  by_cases h0 : n = 0
  · subst h0
    clear hn
    go_enter Try.func53, Try.ntmps53
    go_wp2
    go_ret
    exact ⟨_, rfl, Kd.R_nil _ _ _ _ _, Below.refl _ _⟩
  · have hpos : 0 < n := by omega
    have h1 : (decide ((0 : Int) < (n : Int))) = true := by simp; omega
    have h2 : (decide ((n : Int) < 0)) = false := by simp
    clear h0
    go_enter Try.func53, Try.ntmps53
    go_wp2_with (first | ((with_reducible refine gate_builtin (b := .append) (xs := #[.tmp 20, .tmp 21]) rfl ?_); at_builtin; refine Kd.R_append_zeros k37 (w0 := w) w.heap.size rfl (.tmp 20) (.tmp 21) 22 3 37 (.agg #[(.string ⟨#[]⟩), (.string ⟨#[]⟩)]) 32 rfl Try.underlying22 Try.underlying3 info37 rfl (by decide) (by omega) (.slice none 0 0) ([] : List S37) z37 (n : Int) (fun _ => True) rfl rfl ?aZ (fun _ _ => trivial) (Kd.R_nil _ _ _ _ _) (by omega) (Below.refl _ _) (Nat.le_refl _) ?aL ?_; (case aZ => exact k37_mkM _ _ _ z37); (case aL => have := LM.out; simp; omega); intro v1 w1 ho hb hg hat; obtain ⟨A1, c1, hv1, hlc⟩ := Kd.R_reads ho; have ho' := Aside0.mk ho; clear ho hg hat; subst hv1; obtain ⟨i0, hi0, _, hsz, _⟩ := info_parts info37; have hcut := cut_to (P := Try.prog) 22 37 .i64 Try.underlying22 hi0 A1 ([] ++ List.replicate (n : Int).toNat z37).length c1 0 (by omega) (by omega) hlc.1; have hlc' := Aside0.mk hlc; have hb' := Aside0.mk hb; clear hi0 hsz hlc hb))
    go_ret
    refine ⟨_, rfl, ?_, hb'.out⟩
    have := Kd.R_take (m := 0) ho'.out (by omega)
    simpa using this
theorem take_flat {α : Type} : ∀ (l : List (List α)) (k : Nat), k < l.length → (l.take (k + 1)).flatten = (l.take k).flatten ++ l.getD k []
  | [], k, h => absurd h (by simp)
  | x :: l, 0, h => by simp
  | x :: l, k + 1, h => by
    have := take_flat l k (by simpa using h)
    simp only [List.take_succ_cons, List.flatten_cons, this, List.append_assoc, List.getD_cons_succ]
theorem take_flat_le {α : Type} (l : List (List α)) (k : Nat) : (l.take k).flatten.length ≤ l.flatten.length := by
  have h : l.flatten = (l.take k).flatten ++ (l.drop k).flatten := by rw [← List.flatten_append, List.take_append_drop]
  rw [h, List.length_append]; omega
theorem rows_at {w : World} {A : Option Addr} {l : List (List S37)} (h : Kd.C (Kd.slice 37 k37) w A l.length l) (k : Nat) (hk : k < l.length) :
    ∃ ad A1 c1, A = some ad ∧ (l.getD k []).length ≤ c1 ∧ w.cell? (ad.add k) = some (.slice A1 (l.getD k []).length c1) ∧ Kd.C k37 w A1 (l.getD k []).length (l.getD k []) := by
  obtain ⟨ad, c, e, hs, ⟨A1, c1, rfl, hl, hr⟩, hcell⟩ := ReadsRow.get_ h [] (k : Int) (by omega) (by omega)
  rw [Int.toNat_natCast] at hl hr hcell
  refine ⟨ad, A1, c1, e, hl, ?_, hr⟩
  have := hcell 0 _ rfl
  rwa [show k * (Kd.slice 37 k37).sz + 0 = k from Nat.mul_one k] at this
def api_Entry_43.f (l0 : List (List S37)) : Option (List S37) := if l0.flatten.length < 4398046511104 then some l0.flatten else none
set_option maxHeartbeats 4000000 in
set_option maxRecDepth 100000 in
theorem api_Entry_43.calls (A0 : Option Addr) (c0 : Nat) (l0 : List (List S37)) (r : List S37) (w : World) (hr0 : Kd.C (Kd.slice 37 k37) w A0 l0.length l0) (hc0 : l0.length ≤ c0) (h : api_Entry_43.f l0 = some r) :
    Calls Try.prog 43 #[.slice A0 l0.length c0] w fun e w' => ∃ v0_ : Value, e = .returned (v0_) ∧ Kd.R k37 37 w' w.heap.size (fun _ => True) v0_ r ∧ Below w.heap.size w w' := by
  have hb : l0.flatten.length < 4398046511104 := by
    unfold api_Entry_43.f at h
    by_cases hz : l0.flatten.length < 4398046511104
    · exact hz
    · rw [if_neg hz] at h; simp at h
  unfold api_Entry_43.f at h
  rw [if_pos hb] at h
  obtain rfl := Option.some.inj h
  clear h
  have h63 : l0.length ≤ 9223372036854775807 := hr0.2.1
  have HR := Aside0.mk hr0
  have LM := Aside0.mk hb
  clear hr0
  go_enter Try.func43, Try.ntmps43
  go_wp2
  go_loop [3, 11] (fun s i => ∃ k : Nat, k ≤ l0.length ∧ s = .int .i64 ((l0.take k).flatten.length : Nat) ∧ i = .int .i64 k) (fun _ i => l0.length - (intOf i).toNat)
  case atStart => exact ⟨0, by omega, rfl, rfl⟩
  case round =>
    obtain ⟨k, hk, rfl, rfl⟩ := hrel
    by_cases hlt : k < l0.length
    · obtain ⟨ad, A1, c1, rfl, h1, h2, h3⟩ := rows_at HR.out k hlt
      have hle := take_flat_le l0 (k + 1)
      have hs := take_flat l0 k hlt
      rw [hs, List.length_append] at hle
      have HS : Aside0 ((l0.take (k + 1)).flatten.length = (l0.take k).flatten.length + (l0.getD k []).length) := ⟨by rw [hs, List.length_append]⟩
      clear hs h1 h3
      generalize (l0.getD k []).length = m at *
      generalize (l0.take k).flatten.length = s at *
      have hneg : (decide ((s : Int) + (m : Int) < 0)) = false := by simp; omega
      go_wp2
      go_round
      case rel => exact ⟨k + 1, by omega, by rw [HS.out]; go_num, by go_num⟩
      case measure => simp [intOf]; omega
    · obtain rfl : k = l0.length := by omega
      have HT : Aside0 (l0.take l0.length = l0) := ⟨List.take_length⟩
      rw [HT.out]
      obtain ⟨N, hN⟩ : ∃ N, l0.flatten.length = N := ⟨_, rfl⟩
      rw [hN] at hb ⊢
      have HN := Aside0.mk hN
      replace LM := Aside0.mk hb
      clear hN
      go_wp2_with (go_at_call 53; (with_reducible refine (Grow_nil _ _ LM.out).mono ?_); rintro e w1 ⟨v, rfl, ho, hb1⟩; have HO := Aside0.mk ho; have HB := Aside0.mk hb1; clear ho hb1)
      go_loopw [6, 27] (fun v i W => ∃ k : Nat, k ≤ l0.length ∧ i = .int .i64 k ∧ Kd.R k37 37 W w.heap.size (fun _ => True) v (l0.take k).flatten ∧ Below w.heap.size w W) (fun _ i _ => l0.length - (intOf i).toNat)
      case atStart => exact ⟨0, by omega, rfl, HO.out, HB.out⟩
      case round =>
        obtain ⟨k, hk, rfl, ho, hb1⟩ := hrel
        by_cases hlt : k < l0.length
        · have HC1 := Aside0.mk (rows_at (Kd.C_below HR.out hb1) k hlt)
          obtain ⟨ad, A1, c1, rfl, h1, h2, h3⟩ := HC1.out
          have HO1 := Aside0.mk ho
          have HB1 := Aside0.mk hb1
          have H3 := Aside0.mk h3
          have HS := Aside0.mk (take_flat l0 k hlt)
          clear ho hb1 h3
          have hle := take_flat_le l0 (k + 1)
          rw [HS.out, List.length_append] at hle
          have LM2 : Aside0 ((l0.take k).flatten.length + (l0.getD k []).length ≤ 4398046511104) := ⟨by have := HN.out; omega⟩
          clear hle HC1
          generalize l0.getD k [] = y at *
          go_wp2_with (first | ((with_reducible refine gate_builtin (b := .append) (xs := #[.tmp 31, .tmp 32]) rfl ?_); at_builtin; refine Kd.R_append_rows k37 (w0 := w) w.heap.size rfl (.tmp 31) (.tmp 32) 22 37 (.agg #[(.string ⟨#[]⟩), (.string ⟨#[]⟩)]) 32 rfl Try.underlying22 info37 rfl (by decide) (by omega) _ (l0.take k).flatten y A1 _ c1 (fun _ => True) (fun _ => False) rfl rfl ?aO ?aR (fun _ _ h => h) (fun _ h => h.elim) ?aF ?aB ?aS ?aL ?_; (case aR => exact H3.out); (case aB => exact HB1.out); (case aF => exact (fun _ _ => trivial)); (case aO => exact HO1.out); (case aS => exact HB1.out.size); (case aL => have := LM2.out; omega); intro v1 w9 ho hb hg hat; rw [← HS.out] at ho; have HO2 := Aside0.mk ho; have HB2 := Aside0.mk hb; clear ho hb hg hat))
          go_roundw
          case rel => exact ⟨k + 1, by omega, by go_num, HO2.out, HB2.out⟩
          case measure => simp [intOf]; omega
        · obtain rfl : k = l0.length := by omega
          have HO1 := Aside0.mk ho
          have HB1 := Aside0.mk hb1
          clear ho hb1
          go_wp2
          go_ret
          refine ⟨_, rfl, ?_, HB1.out⟩
          have := HO1.out
          rwa [HT.out] at this

end Go.Proofs.Ytffgodpmmipnkaa.X
