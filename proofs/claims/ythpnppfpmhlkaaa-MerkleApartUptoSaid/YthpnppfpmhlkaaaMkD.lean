/- Chapter 3: the leaves of a list of texts. -/
import Derived.Test.YthpnppfpmhlkaaaMkC

namespace Go.Proofs.Ythpnppfpmhlkaaa.Sha
open Go.RowKit Go.Proofs.Ythpnppfpmhlkaaa.X Go.Proofs.YthpnppfpmhlkaaaW.PrintWords Go.Proofs.YthpnppfpmhlkaaaW.PrintLast Go.Proofs.YthpnppfpmhlkaaaW.PrintMore
set_option linter.unusedVariables false
set_option linter.unusedSimpArgs false

theorem strs_at {W : World} {A : Option Addr} {n : Nat} {xs : List ByteArray} (h : Kd.C Kd.string W A n xs) (j : Nat) (hj : j < n) : ∃ ad : Addr, A = some ad ∧ W.cell? (ad.add j) = some (.string (xs.getD j ByteArray.empty)) := by
  obtain ⟨h1, h2, h3⟩ := h
  obtain ⟨ad, rfl, h4⟩ := h3 (by omega)
  obtain ⟨c, hl, hk, hc⟩ := h4 j _ (List.getElem?_eq_getElem (show j < xs.length by omega))
  refine ⟨ad, rfl, ?_⟩
  have hc0 : c = [.string (xs[j]'(by omega))] := hk
  have := hc 0 _ (by rw [hc0]; rfl)
  rw [List.getD_eq_getElem?_getD, List.getElem?_eq_getElem (by omega)]
  have e : j * Kd.string.sz + 0 = j := by show j * 1 + 0 = j; omega
  rw [e] at this
  exact this
/-- The leaves of texts. -/
def tl (xs : List ByteArray) : List (List UInt8) := xs.map fun s => leafF s.data.toList
theorem tl_len (xs : List ByteArray) : (tl xs).length = xs.length := List.length_map _
theorem tl_at (xs : List ByteArray) (j : Nat) (hj : j < xs.length) : (tl xs).getD j [] = leafF (xs.getD j ByteArray.empty).data.toList := by
  unfold tl
  rw [List.getD_eq_getElem?_getD, List.getD_eq_getElem?_getD, List.getElem?_map, List.getElem?_eq_getElem hj]; rfl
theorem tl_32 (xs : List ByteArray) : ∀ x ∈ tl xs, x.length = 32 := by
  intro x hx
  unfold tl at hx
  rw [List.mem_map] at hx
  obtain ⟨s, _, rfl⟩ := hx
  exact leafF_len _
theorem below_cells {B b : Nat} {a : World} (hb : B ≤ b) : ∀ (vs : List Value) (o : Nat) (w : World), Below B a w → Below B a (w.setCells b o vs)
  | [], _, _, h => h
  | v :: r, o, w, h => below_cells hb r (o + 1) _ (h.setCell (by exact hb) v)
theorem setCells_block {g : Nat} : ∀ (vs : List Value) (o : Nat) (W : World) (cs : Array Value), W.heap[g]? = some (.cells cs 23 (0, 0)) → (∀ v ∈ vs, v.oneCell' = true) → ∃ cs', (W.setCells g o vs).heap[g]? = some (.cells cs' 23 (0, 0)) ∧ cs'.size = cs.size ∧ ∀ k, cs'[k]? = if o ≤ k ∧ k < o + vs.length ∧ k < cs.size then vs[k - o]? else cs[k]?
  | [], o, W, cs, h, _ => ⟨cs, h, rfl, fun k => by rw [if_neg (by simp; omega)]⟩
  | v :: vs, o, W, cs, h, h1 => by
    have hb := blk_put h o v rfl
    obtain ⟨cs', h2, h3, h4⟩ := setCells_block vs (o + 1) (W.setCell ⟨g, o, none⟩ v) (cs.setIfInBounds o v) hb (fun u hu => h1 u (List.mem_cons_of_mem _ hu))
    refine ⟨cs', h2, by rw [h3, Array.size_setIfInBounds], fun k => ?_⟩
    rw [h4, Array.size_setIfInBounds, List.length_cons]
    by_cases c1 : o + 1 ≤ k ∧ k < o + 1 + vs.length ∧ k < cs.size
    · rw [if_pos c1, if_pos (by omega), show k - o = (k - (o + 1)) + 1 by omega, List.getElem?_cons_succ]
    · rw [if_neg c1, Array.getElem?_setIfInBounds]
      by_cases c2 : o = k
      · subst c2
        rw [if_pos rfl]
        by_cases c3 : o < cs.size
        · rw [if_pos c3, if_pos (by omega), Nat.sub_self]; rfl
        · rw [if_neg c3, if_neg (by omega), Array.getElem?_eq_none (by omega)]
      · rw [if_neg c2, if_neg (by omega)]
set_option maxHeartbeats 8000000 in
set_option maxRecDepth 100000 in
theorem leaves_calls (A : Option Addr) (cp : Nat) (xs : List ByteArray) (w : World) (hr : Kd.C Kd.string w A xs.length xs) (hcp : xs.length ≤ cp) (hn : xs.length ≤ 1099511627776) (h0 : 0 < xs.length) (hsz : ∀ s ∈ xs, s.size ≤ 140737488355000) :
    Calls Try.prog 23 #[.slice A xs.length cp] w fun e w' => e = .returned (.slice (some ⟨w.heap.size, 0, none⟩) xs.length xs.length) ∧ HRead (some ⟨w.heap.size, 0, none⟩) (tl xs) w' ∧ Below w.heap.size w w' := by
  have i23 : (Try.prog.info? 23).map (·.size) = some 32 := by kernel_rfl
  obtain ⟨i0, hi0, hzz⟩ := Option.map_eq_some_iff.1 info23
  simp only [Prod.mk.injEq] at hzz
  obtain ⟨hz0, hz1, hz2⟩ := hzz
  obtain ⟨M, hM⟩ : ∃ M, M = madeCells (Value.agg (brw 32 [])).cells (((xs.length : Nat) : Int).toNat * i0.size) := ⟨_, rfl⟩
  have hMs : M.size = xs.length * 32 := by rw [hM, size_madeCells, hz1]; simp [Value.cells, brw_size 32 [] (by decide)]
  have hmk : ∀ W : World, (Instr.makeSlice 31 (.int .i64 (xs.length : Int)) (.int .i64 (xs.length : Int))).run Try.prog W = .ok (.slice (some ⟨W.heap.size, 0, none⟩) xs.length xs.length) (W.alloc (.cells M 23)) := fun W => by
    have h := run_make (P := Try.prog) W 31 23 i0 (.agg (brw 32 [])) Try.underlying31 hi0 hz0 .i64 .i64 (xs.length : Int) (xs.length : Int) (by omega) (by omega) (by rw [hz2]; omega) (by omega)
    rw [← hM] at h
    simpa using h
  have HR := Aside0.mk hr
  have HSZ := Aside0.mk hsz
  clear hr hM hz0 hz1 hz2 hi0 hsz
  go_enter Try.func23, Try.ntmps23
  go_wp2
  have C0 : Aside0 ((w.alloc (.cells M 23)).heap[w.heap.size]? = some (.cells M 23 (0, 0))) := ⟨blk_new _ _⟩
  have D0 := Aside0.mk (below_alloc (Below.refl w.heap.size w) (.cells M 23))
  generalize w.alloc (.cells M 23) = w1 at C0 D0 ⊢
  obtain ⟨g, hg⟩ : ∃ g, g = w.heap.size := ⟨_, rfl⟩
  have GG : Aside0 (w.heap.size ≤ g) := ⟨by omega⟩
  have PG : (Value.slice (some ⟨w.heap.size, 0, none⟩) xs.length xs.length) = .slice (some ⟨g, 0, none⟩) xs.length xs.length := by rw [hg]
  rw [PG]
  rw [← hg] at C0
  have HGE := Aside0.mk hg
  clear PG hg
  go_loopw [11] (fun v W => ∃ (i : Nat) (cs : Array Value), i ≤ xs.length ∧ v = .int .i64 i ∧ Aside0 (W.heap[g]? = some (.cells cs 23 (0, 0))) ∧ Aside0 (cs.size = xs.length * 32) ∧ Aside0 (∀ j k, j < i → k < 32 → cs[j * 32 + k]? = some (.int .u8 (((tl xs).getD j []).getD k 0).toNat)) ∧ Aside0 (Below w.heap.size w W)) (fun v _ => xs.length - (intOf v).toNat)
  case atStart => exact ⟨0, M, Nat.zero_le _, rfl, C0, ⟨hMs⟩, ⟨fun j k hj => by omega⟩, D0⟩
  case round =>
    clear C0 D0
    obtain ⟨i, cs, hi, rfl, C0, CS, CL, D0⟩ := hrel
    by_cases hlt : i < xs.length
    · have q1 : ((i : Int) < (xs.length : Int)) = True := eq_true (by omega)
      have q2 : (xs.length ≤ i) = False := eq_false (by omega)
      have b1 : (i < xs.length) = True := eq_true hlt
      obtain ⟨ad, rfl, x0⟩ := strs_at (Kd.C_below HR.out D0.out) i hlt
      have hss : (xs.getD i ByteArray.empty).size ≤ 140737488355000 := by
        rw [List.getD_eq_getElem?_getD, List.getElem?_eq_getElem hlt]
        exact HSZ.out _ (List.getElem_mem hlt)
      have htl := tl_at xs i hlt
      generalize xs.getD i ByteArray.empty = sx at x0 hss htl
      obtain ⟨S, hS⟩ : ∃ S, S = leafF sx.data.toList := ⟨_, rfl⟩
      have hS32 : S.length = 32 := by rw [hS]; exact leafF_len _
      have HC : ∀ W : World, Calls Try.prog 12 #[.string sx] W fun e w' => e = .returned (.agg (brw 32 S)) ∧ Below W.heap.size W w' := fun W => by
        have := leaf_calls sx.data.toList W (by rw [Array.length_toList]; exact hss)
        rw [tx_toList, ← hS, B32_brw S hS32] at this
        exact this
      rw [← hS] at htl
      have HTL := Aside0.mk htl
      have hzS : (brw 32 S).size = 32 := brw_size 32 S (by omega)
      clear hS hss htl
      go_wp2_with (first
        | (go_at_call 12; (with_reducible refine (HC _).mono ?_); rintro e w2 ⟨rfl, hb⟩; have n_C0 := Aside0.mk (blk_below C0.out hb); have n_D0 := Aside0.mk (below_then D0.out D0.out.size hb); clear C0 D0 hb; have C0 := n_C0; have D0 := n_D0; clear n_C0 n_D0)
        | ((with_reducible refine gate_store rfl ?_); go_loud (refine wpList_store_mid rfl 23 (.tmp 20) (.tmp 19) rfl g (i * 32) (brw 32 S) rfl rfl (fun j hj => ⟨by rw [blk_cell C0.out, Array.getElem?_eq_getElem (by rw [CS.out]; rw [hzS] at hj; omega)]; rfl, blk_frozen C0.out _⟩) (by rw [hzS]; exact i23) (brw_one _ _) ?_)))
      have hbt : (brw 32 S).toList = bc S := by rw [brw_full 32 S hS32]; rfl
      obtain ⟨cs', h1, h2, h3⟩ := setCells_block (brw 32 S).toList (i * 32) w2 cs C0.out (fun v hv => (Array.all_eq_true_iff_forall_mem.1 (brw_one 32 S)) v (by simpa using hv))
      refine ⟨⟨i + 1, cs', by omega, by go_num, ⟨h1⟩, ⟨by rw [h2]; exact CS.out⟩, ⟨fun j k hj hk => ?_⟩, ⟨below_cells GG.out _ _ _ D0.out⟩⟩, by simp [intOf]; omega⟩
      rw [h3, Array.length_toList, hzS, CS.out]
      by_cases hji : j = i
      · subst hji
        rw [if_pos (by omega), hbt, show j * 32 + k - j * 32 = k by omega, HTL.out]
        unfold bc
        rw [List.getElem?_map, List.getElem?_eq_getElem (by omega), List.getD_eq_getElem?_getD, List.getElem?_eq_getElem (by omega)]; rfl
      · rw [if_neg (by omega)]
        exact CL.out j k (by omega) hk
    · have q1 : ((i : Int) < (xs.length : Int)) = False := eq_false (by omega)
      have q2 : (xs.length ≤ i) = True := eq_true (by omega)
      have b1 : (i < xs.length) = False := eq_false hlt
      have HIE : Aside0 (i = xs.length) := ⟨by omega⟩
      go_wp2
      go_ret
      refine ⟨by rw [← HGE.out]; rfl, ?_, D0.out⟩
      rw [← HGE.out]
      refine ⟨tl_32 xs, fun _ => ⟨_, rfl, fun j k hj hk => ?_⟩⟩
      have hadd : (⟨g, 0, none⟩ : Addr).add (j * 32 + k) = ⟨g, j * 32 + k, none⟩ := by unfold Addr.add; split <;> simp_all
      rw [hadd, blk_cell C0.out]
      exact CL.out j k (by rw [tl_len] at hj; have := HIE.out; omega) hk
end Go.Proofs.Ythpnppfpmhlkaaa.Sha
