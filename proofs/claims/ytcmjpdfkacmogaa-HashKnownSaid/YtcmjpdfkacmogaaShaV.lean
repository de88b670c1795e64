/- Chapter 2: head, grown, an argument of 32 bytes; HashSums, walked. -/
import Derived.Test.YtcmjpdfkacmogaaShaO
import Derived.Test.YtcmjpdfkacmogaaShaQ
import Derived.Test.YtcmjpdfkacmogaaShaU
import Derived.Test.YtcmjpdfkacmogaaX23
import Derived.Test.YtcmjpdfkacmogaaOpens
namespace Go.Proofs.Ytcmjpdfkacmogaa.Sha
open Go.RowKit Go.Proofs.Ytcmjpdfkacmogaa.X Go.Proofs.YtcmjpdfkacmogaaW.PrintWords Go.Proofs.YtcmjpdfkacmogaaW.PrintLast Go.Proofs.YtcmjpdfkacmogaaW.PrintMore
set_option linter.unusedVariables false
set_option linter.unusedSimpArgs false

/-! ### grown -/
theorem grown_total (s : ByteArray) (t : Int) : ∀ (n : Nat) (b : ByteArray) (i : Int), 5000 - b.size ≤ n → s.size ≤ b.size → (b.size ≤ s.size ∨ b.size ≤ 9998) →
    ∃ k r, cofferlaw02_grown.l0 k s t b i = some r ∧ (r.size ≤ s.size ∨ r.size ≤ 9998)
  | n, b, i, hn, hsb, hb => by
    by_cases h1 : i < t
    · by_cases h2 : (b.size : Int) < 5000
      · by_cases h3 : s.toList = ([] : List UInt8)
        · exact ⟨1, b, by unfold cofferlaw02_grown.l0; rw [if_pos h1, if_pos h2, if_pos h3], hb⟩
        · have hs0 : 0 < s.size := by
            rcases Nat.eq_zero_or_pos s.size with h | h
            · exact absurd (by
                have e : s = ByteArray.empty := by
                  have hd : s.data = #[] := Array.eq_empty_of_size_eq_zero h
                  cases s; simp at hd; subst hd; rfl
                rw [e]
                unfold ByteArray.toList ByteArray.toList.loop
                simp) h3
            · exact h
          have hsz : (b ++ s).size = b.size + s.size := by rw [ByteArray.size_append]
          obtain ⟨m, rfl⟩ : ∃ m, n = m + 1 := ⟨n - 1, by omega⟩
          obtain ⟨k, r, hk, hr⟩ := grown_total s t m (b ++ s) (wrap64 (i + 1)) (by omega) (by omega) (by omega)
          refine ⟨k + 1, r, ?_, hr⟩
          unfold cofferlaw02_grown.l0
          rw [if_pos h1, if_pos h2, if_neg h3, if_pos (by omega)]
          exact hk
      · exact ⟨1, b, by unfold cofferlaw02_grown.l0; rw [if_pos h1, if_neg h2], hb⟩
    · exact ⟨1, b, by unfold cofferlaw02_grown.l0; rw [if_neg h1], hb⟩
theorem grown_calls (s : ByteArray) (t : Int) : ∃ r : ByteArray, (r.size ≤ s.size ∨ r.size ≤ 9998) ∧ ∀ w : World, Calls Try.prog 10 #[.string s, .int .i64 t] w fun e w' => e = .returned (.string r) ∧ Below w.heap.size w w' := by
  obtain ⟨k, r, hk, hr⟩ := grown_total s t _ s 1 (Nat.le_refl _) (Nat.le_refl _) (.inl (Nat.le_refl _))
  refine ⟨r, hr, fun w => (cofferlaw02_grown.calls k s t r w hk).mono ?_⟩
  rintro e w' ⟨rfl, h⟩
  exact ⟨rfl, h.below⟩
/-! ### An argument of 32 bytes -/
theorem arg_b32 {H : Type} {enc : TypeId × Value → H} {w : World} {base : Nat} {v : Value} {d : DataW H} {p : List MemPlace} (hv : Value.okWide Try.prog w .any base 24 v) (h : DataW.Trod enc Try.prog w 0 (fun _ => true) true 24 v d p) :
    ∃ l : List UInt8, l.length = 32 ∧ v = B32 l := by
  unfold Value.okWide at hv
  rw [Try.underlying24] at hv
  obtain ⟨cs, rfl, hsz, _⟩ := hv
  have hc24 : Try.prog.cellsOf 24 = 32 := by kernel_rfl
  have hc5 : Try.prog.cellsOf 5 = 1 := by kernel_rfl
  rw [hc24] at hsz
  obtain ⟨fuel, hf⟩ := h
  obtain ⟨xs, m, rfl, hx, hl, hxl, hat⟩ := DataW.trod_array Try.underlying24 hf
  have hone : ∀ j, j < 32 → ∃ c : UInt8, cs[j]? = some (.int .u8 c.toNat) := by
    intro j hj
    have h1 := hat j hj
    rw [hc5, Nat.mul_one, List.getElem?_eq_getElem (by omega)] at h1
    obtain ⟨n, h2, _, h3⟩ := DataW.trod_int Try.underlying5 h1
    have hb := bounds_u8 h3
    refine ⟨UInt8.ofNat n.toNat, ?_⟩
    have h4 : ((Value.agg cs).cells.toList.drop j)[0]? = some (.int .u8 n) := by
      have := congrArg (fun l => l[0]?) h2
      simpa [List.getElem?_take] using this
    rw [List.getElem?_drop, Nat.add_zero] at h4
    have h5 : cs[j]? = some (.int .u8 n) := by simpa [Value.cells] using h4
    rw [h5]
    congr 2
    rw [UInt8.toNat_ofNat_of_lt' (by show _ < 256; omega)]
    omega
  obtain ⟨l, hll, hlc⟩ := Opens.choose_list (fun j (c : UInt8) => cs[j]? = some (.int .u8 c.toNat)) 32 hone
  refine ⟨l, hll, ?_⟩
  unfold B32
  congr 1
  apply Array.ext_getElem?
  intro j
  by_cases hj : j < 32
  · rw [hlc j l[j] (List.getElem?_eq_getElem _)]
    simp [List.getElem?_eq_getElem (show j < l.length by omega)]
  · rw [Array.getElem?_eq_none (by omega)]
    rw [Array.getElem?_eq_none (by simp; omega)]
/-! ### head -/
set_option maxRecDepth 100000 in
theorem hex_empty : tx (hexF (sumF [])) = ⟨#[101, 51, 98, 48, 99, 52, 52, 50, 57, 56, 102, 99, 49, 99, 49, 52, 57, 97, 102, 98, 102, 52, 99, 56, 57, 57, 54, 102, 98, 57, 50, 52, 50, 55, 97, 101, 52, 49, 101, 52, 54, 52, 57, 98, 57, 51, 52, 99, 97, 52, 57, 53, 57, 57, 49, 98, 55, 56, 53, 50, 98, 56, 53, 53]⟩ := by
  rw [sum_empty]; kernel_rfl
set_option maxRecDepth 100000 in
theorem hex_abc : tx (hexF (sumF [97, 98, 99])) = ⟨#[98, 97, 55, 56, 49, 54, 98, 102, 56, 102, 48, 49, 99, 102, 101, 97, 52, 49, 52, 49, 52, 48, 100, 101, 53, 100, 97, 101, 50, 50, 50, 51, 98, 48, 48, 51, 54, 49, 97, 51, 57, 54, 49, 55, 55, 97, 57, 99, 98, 52, 49, 48, 102, 102, 54, 49, 102, 50, 48, 48, 49, 53, 97, 100]⟩ := by
  rw [sum_abc]; kernel_rfl
theorem par_ab : parF [97, 98] = (List.replicate 32 0, false) := by
  unfold parF; rw [if_neg (by decide)]
set_option maxHeartbeats 8000000 in
set_option maxRecDepth 100000 in
theorem head_calls (w : World) : Calls Try.prog 9 #[] w fun e w' => e = .returned (.bool true) ∧ Below w.heap.size w w' := by
  have i24 : (Try.prog.info? 24).map (·.size) = some 32 := by kernel_rfl
  have hz : (brw 32 (List.replicate 32 0)).size = 32 := brw_size 32 _ (by decide)
  have HP : ∀ W : World, Calls Try.prog 16 #[.string ⟨#[97, 98]⟩] W fun e w' => e = .returned (.tuple #[.agg (brw 32 (List.replicate 32 0)), .bool false]) ∧ Below W.heap.size W w' := fun W => by
    have h := parse_calls [97, 98] W
    rw [par_ab] at h
    exact h
  have HS0 : ∀ W : World, Calls Try.prog 11 #[.string ⟨#[]⟩] W fun e w' => e = .returned (B32 (sumF [])) ∧ Below W.heap.size W w' := fun W => sum_calls [] W (by decide)
  have HX0 : ∀ W : World, Calls Try.prog 18 #[B32 (sumF [])] W fun e w' => e = .returned (.string ⟨#[101, 51, 98, 48, 99, 52, 52, 50, 57, 56, 102, 99, 49, 99, 49, 52, 57, 97, 102, 98, 102, 52, 99, 56, 57, 57, 54, 102, 98, 57, 50, 52, 50, 55, 97, 101, 52, 49, 101, 52, 54, 52, 57, 98, 57, 51, 52, 99, 97, 52, 57, 53, 57, 57, 49, 98, 55, 56, 53, 50, 98, 56, 53, 53]⟩) ∧ Below W.heap.size W w' := fun W => by
    have h := hex_calls (sumF []) (sumF_len _) W
    rw [hex_empty] at h
    exact h
  have HX1 : ∀ W : World, Calls Try.prog 18 #[B32 (sumF [97, 98, 99])] W fun e w' => e = .returned (.string ⟨#[98, 97, 55, 56, 49, 54, 98, 102, 56, 102, 48, 49, 99, 102, 101, 97, 52, 49, 52, 49, 52, 48, 100, 101, 53, 100, 97, 101, 50, 50, 50, 51, 98, 48, 48, 51, 54, 49, 97, 51, 57, 54, 49, 55, 55, 97, 57, 99, 98, 52, 49, 48, 102, 102, 54, 49, 102, 50, 48, 48, 49, 53, 97, 100]⟩) ∧ Below W.heap.size W w' := fun W => by
    have h := hex_calls (sumF [97, 98, 99]) (sumF_len _) W
    rw [hex_abc] at h
    exact h
  have HW1 : ∀ (g : Nat) (W : World), Held g [] W → Calls Try.prog 14 #[.pointer (some ⟨g, 0, none⟩), .string ⟨#[97]⟩] W fun e w' => e = .returned (.tuple #[]) ∧ Held g [97] w' ∧ Own g W w' := fun g W h => held_write g [] [97] W h (by decide)
  have HW2 : ∀ (g : Nat) (W : World), Held g [97] W → Calls Try.prog 14 #[.pointer (some ⟨g, 0, none⟩), .string ⟨#[98, 99]⟩] W fun e w' => e = .returned (.tuple #[]) ∧ Held g [97, 98, 99] w' ∧ Own g W w' := fun g W h => held_write g [97] [98, 99] W h (by decide)
  have HSW : ∀ (g : Nat) (W : World), Held g [97, 98, 99] W → Calls Try.prog 15 #[.pointer (some ⟨g, 0, none⟩)] W fun e w' => e = .returned (B32 (sumF [97, 98, 99])) ∧ Below W.heap.size W w' := fun g W h => held_sum g _ W h
  obtain ⟨Z, hZ⟩ : ∃ Z, Z = List.replicate 32 (0 : UInt8) := ⟨_, rfl⟩
  rw [← hZ] at hz HP
  clear hZ
  obtain ⟨S0, hS0⟩ : ∃ S, S = B32 (sumF []) := ⟨_, rfl⟩
  obtain ⟨S1, hS1⟩ : ∃ S, S = B32 (sumF [97, 98, 99]) := ⟨_, rfl⟩
  rw [← hS0] at HS0 HX0
  rw [← hS1] at HX1 HSW
  clear hS0 hS1
  go_enter Try.func9, Try.ntmps9
  go_wp2_with (first
    | (go_at_call 13; (with_reducible refine (held_new _).mono ?_); rintro e w1 ⟨g, rfl, hg, hh, hb⟩; have HG := Aside0.mk hg; have H0 := Aside0.mk hh; have D0 := Aside0.mk hb; clear hg hh hb)
    | (go_at_call 14; (with_reducible refine (HW1 g _ H0.out).mono ?_); rintro e w2 ⟨rfl, hh, hb⟩; have H1 := Aside0.mk hh; have D1 := Aside0.mk (D0.out.trans (hb.below _ HG.out D0.out.size)); clear hh hb H0 D0)
    | (go_at_call 14; (with_reducible refine (HW2 g _ H1.out).mono ?_); rintro e w3 ⟨rfl, hh, hb⟩; have H2 := Aside0.mk hh; have D2 := Aside0.mk (D1.out.trans (hb.below _ HG.out D1.out.size)); clear hh hb H1 D1)
    | (go_at_call 16; (with_reducible refine (HP _).mono ?_); rintro e w4 ⟨rfl, hb⟩; have H3 : Aside0 (Held g [97, 98, 99] w4) := ⟨blk_below H2.out hb⟩; have D3 := Aside0.mk (below_then D2.out D2.out.size hb); clear hb H2 D2)
    | ((with_reducible refine gate_store rfl ?_); refine wpList_store_row rfl 24 (.tmp 2) (.tmp 13) rfl w4.heap.size (brw 32 Z) rfl rfl 24 (brw 32 []) (blk_new _ _) (by rw [hz]; exact i24) (by rw [hz]; rfl) (brw_one _ _) ?_)
    | (go_at_call 11; change Calls Try.prog 11 _ ((w4.alloc (.cells (brw 32 []) 24)).setRow w4.heap.size (brw 32 Z)) _; (with_reducible refine (HS0 _).mono ?_); rintro e w5 ⟨rfl, hb⟩; have hq := below_setRow (below_alloc (Below.refl w4.heap.size w4) (.cells (brw 32 []) 24)) (Nat.le_refl _) (brw 32 Z); have H4 : Aside0 (Held g [97, 98, 99] w5) := ⟨blk_below (blk_below H3.out hq) hb⟩; have D4 := Aside0.mk (below_then (below_setRow (below_alloc D3.out (.cells (brw 32 []) 24)) D3.out.size (brw 32 Z)) (below_setRow (below_alloc D3.out (.cells (brw 32 []) 24)) D3.out.size (brw 32 Z)).size hb); clear hb hq H3 D3)
    | (go_at_call 18; (with_reducible refine (HX0 _).mono ?_); rintro e w6 ⟨rfl, hb⟩; have H5 : Aside0 (Held g [97, 98, 99] w6) := ⟨blk_below H4.out hb⟩; have D5 := Aside0.mk (below_then D4.out D4.out.size hb); clear hb H4 D4)
    | (go_at_call 15; (with_reducible refine (HSW g _ H5.out).mono ?_); rintro e w7 ⟨rfl, hb⟩; have D6 := Aside0.mk (below_then D5.out D5.out.size hb); clear hb D5 H5)
    | (go_at_call 18; (with_reducible refine (HX1 _).mono ?_); rintro e w8 ⟨rfl, hb⟩; have D7 := Aside0.mk (below_then D6.out D6.out.size hb); clear hb D6))
  go_ret
  exact ⟨rfl, D7.out⟩
end Go.Proofs.Ytcmjpdfkacmogaa.Sha
